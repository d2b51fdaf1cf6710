/- A part. -/
import Derived.Test.YtdjfhmghebommaaGreatDoorDEs
namespace Go.Proofs.YtdjfhmghebommaaGreatDoor.Ab
open Go.RowKit
set_option linter.all false
section
def Tab.on (T:Tab) (b:Bool):Tab:={ T with dp:=b }
variable {P:Program} {T:Tab} {w w' : World} {X:Nat→Prop}
theorem RdR.on {ct:CT} {v:Value} {d:D} (b:Bool) (h:RdR T w X ct v d):RdR (T.on b) w X ct v d:=by
 induction h with
 | int k n h=>exact .int k n h
 | bool x=>exact .bool x
 | str x h=>exact .str x h
 | nil e A c h=>exact .nil e A c h
 | sl e ty b o c rows vs h1 h2 h3 h4 h5 h6 h7 _ ih=>exact .sl e ty b o c rows vs h1 h2 h3 h4 h5 h6 h7 ih
theorem RdR.off {ct:CT} {v:Value} {d:D} {b:Bool} (h:RdR (T.on b) w X ct v d):RdR T w X ct v d:=RdR.on (T:=T.on b) T.dp h
theorem DeepV.on {F:Nat→Prop} {ct:CT} {v:Value} {d:D} (b:Bool) (h:DeepV T w F ct v d):DeepV (T.on b) w F ct v d:=by
 induction h with
 | flat F ct v d h1 h2 h3=>exact .flat F ct v d h1 h2 (h3.on b)
 | sl F e ty v rows xs G h1 h2 h3 h4 h5 h6 _ ih=>exact .sl F e ty v rows xs G h1 h2 h3 h4 h5 h6 ih
theorem DeepV.off {F:Nat→Prop} {ct:CT} {v:Value} {d:D} {b:Bool} (h:DeepV (T.on b) w F ct v d):DeepV T w F ct v d:=DeepV.on (T:=T.on b) T.dp h
theorem Own.on {B:Nat} {e:TypeId} {v:Value} {rows:List (List D)} (b:Bool) (h:Own T w X B e v rows):Own (T.on b) w X B e v rows:=by
 obtain ⟨ty,xs,h1,h2,h3,h4⟩:=h
 refine ⟨ty,xs,h1,h2,h3,fun k j ct d row a c f=>?_⟩
 obtain ⟨u,hu,hr⟩:=h4 k j ct d row a c f
 exact ⟨u,hu,hr.on b⟩
theorem GlR.on (b:Bool) (h:GlR T w X):GlR (T.on b) w X:=by
 refine ⟨fun p hp=>?_,h.2⟩
 obtain ⟨h1,h2,h3,h4⟩:=h.1 p hp
 refine ⟨h1,h2,h3,fun j q hj=>?_⟩
 obtain ⟨u,hu,hr⟩:=h4 j q hj
 exact ⟨u,hu,hr.on b⟩
theorem GlR.off {b:Bool} (h:GlR (T.on b) w X):GlR T w X:=GlR.on (T:=T.on b) T.dp h
def CV.fl (T:Tab):CV→Bool
 | .sl true e _=>g9 T e
 | _=>true
def SV.fl (T:Tab):SV→Bool
 | .val _ cs=>cs.all (CV.fl T)
 | .tup vs=>vs.all fun p=>p.2.all (CV.fl T)
 | _=>true
theorem ArgC.on {v:Value} {c:CV} (b:Bool) (h:ArgC T w X v c):ArgC (T.on b) w X v c:=by
 cases c with
 | sl own e rows=>cases own with
   | true=>exact h
   | false=>exact RdR.on b h
 | _=>exact h
theorem ArgR.on {v:Value} {a:SV} (b:Bool) (h:ArgR T w X v a):ArgR (T.on b) w X v a:=by
 cases a with
 | val ag cs=>cases ag with
   | true =>
     obtain ⟨us,h1,h2,h3⟩:=h
     exact ⟨us,h1,h2,fun i c u hc hu=>(h3 i c u hc hu).on b⟩
   | false =>
     obtain ⟨c,h1,h2⟩:=h
     exact ⟨c,h1,h2.on b⟩
 | _=>exact h
theorem ArgsR.on {vals:List Value} {args:List SV} (b:Bool) (h:ArgsR T w X vals args):ArgsR (T.on b) w X vals args:=⟨h.1,fun i a v ha hv=>(h.2 i a v ha hv).on b⟩
theorem ArgsR.off {vals:List Value} {args:List SV} {b:Bool} (h:ArgsR (T.on b) w X vals args):ArgsR T w X vals args:=ArgsR.on (T:=T.on b) T.dp h
theorem OwnF.on {F:Nat→Prop} {e:TypeId} {v:Value} {rows:List (List D)} (b:Bool) (hf:g9 T e=true) (h:OwnF T w X F e v rows):OwnF (T.on b) w X F e v rows:=by
 obtain ⟨h1,h2⟩:=h.own (by unfold dpT;rw [hf];simp)
 refine OwnF.of_own ?_ (h1.on b) h2
 show (b && !g9 T e)=false
 rw [hf];simp
theorem ResC.on {bk:Nat→Nat→Prop} {j:Nat} {v:Value} {c:CV} (b:Bool) (hf:c.fl T=true) (h:ResC T w X bk j v c):ResC (T.on b) w X bk j v c:=by
 cases c with
 | sl own e rows=>cases own with
   | true=>exact OwnF.on b hf h
   | false=>exact RdR.on b h
 | _=>exact h
theorem TupR.on {bk:Nat→Nat→Prop} {j:Nat} {u:Value} {p:Bool × List CV} (b:Bool) (hf:p.2.all (CV.fl T)=true) (h:TupR T w X bk j u p):TupR (T.on b) w X bk j u p:=by
 refine ⟨fun hp=>?_,fun hp=>?_⟩
 · obtain ⟨us,h1,h2,h3⟩:=h.1 hp
   refine ⟨us,h1,h2,fun i c x hc hx=>⟨(h3 i c x hc hx).1,(h3 i c x hc hx).2.on b ?_⟩⟩
   exact jcb.1 hf c (jb8 hc)
 · obtain ⟨c,h1,h2,h3⟩:=h.2 hp
   refine ⟨c,h1,h2,h3.on b ?_⟩
   rw [h1] at hf
   simpa using hf
theorem ResR.on {bk:Nat→Nat→Prop} {v:Value} {r:SV} (b:Bool) (hf:r.fl T=true) (h:ResR T w X bk v r):ResR (T.on b) w X bk v r:=by
 cases r with
 | val ag cs=>cases ag with
   | true =>
     obtain ⟨us,h1,h2,h3⟩:=h
     exact ⟨us,h1,h2,fun i c u hc hu=>(h3 i c u hc hu).on b (jcb.1 hf c (jb8 hc))⟩
   | false =>
     obtain ⟨c,h1,h2⟩:=h
     refine ⟨c,h1,h2.on b ?_⟩
     rw [h1] at hf
     simpa [SV.fl] using hf
 | tup vs =>
   obtain ⟨arr,h1,h2,h3⟩:=h
   exact ⟨arr,h1,h2,fun j p u hp hu=>(h3 j p u hp hu).on b (jcb.1 hf p (jb8 hp))⟩
 | _=>exact h
theorem BoxR.on {k:Nat} {ob:Nat→Nat→Prop} {cs:List CV} (b:Bool) (hf:cs.all (CV.fl T)=true) (h:BoxR T w X k ob cs):BoxR (T.on b) w X k ob cs:=by
 intro j c hc
 obtain ⟨v,h1,h2,h3⟩:=h j c hc
 exact ⟨v,h1,h2,h3.on b (jcb.1 hf c (jb8 hc))⟩
theorem FOk.on {f:FuncId} {s:FSpec} (b:Bool) (h:FOk P T f s) (hr:∀ args,s.pre args→(s.res args).fl T=true)
 (hb:s.bx=true→∀ cs args,s.pre (.tup [(true,cs)] :: args)→cs.all (CV.fl T)=true∧(s.upd (.tup [(true,cs)] :: args)).all (CV.fl T)=true):FOk P (T.on b) f s where
 call:=h.call
 okb:=fun h1 h2 w X k ob cs args vals x1 x2 x3 x4 x5 x6 x7 x8 x9=>by
  have hc:=hb h1 cs args x9
  have x6' : BoxR T w (fun x=>X x∨boxB k ob x) k ob cs:=BoxR.on (T:=T.on b) T.dp hc.1 x6
  refine (h.okb h1 h2 w X k ob cs args vals x1 x2 x3 x4 x5 x6' x7.off x8.off x9).mono fun e w' ⟨v,bk,ob',he,hE⟩=>⟨v,bk,ob',he,?_⟩
  exact ⟨hE.os,hE.tape,hE.output,hE.size,hE.block,hE.res.on b (hr _ x9),hE.box.on b hc.2,hE.bkl,hE.obl,hE.bki,hE.obi,hE.bko⟩
 ok:=fun h1 w X args vals x1 x2 x3 x4=>by
  refine (h.ok h1 w X args vals x1 x2.off x3.off x4).mono fun e w' ⟨v,bk,he,hB,hR,rest⟩=>⟨v,bk,he,hB,hR.on b (hr _ x4),rest⟩
 okn:=fun h1 h2 w X args vals x1 x2 x3=>by
  refine (h.okn h1 h2 w X args vals x1 x2.off x3).mono fun e w' ⟨us,et,he,hw,hl,hc⟩=>⟨us,et,he,hw,hl,fun i c u a1 a2=>(hc i c u a1 a2).on b⟩
theorem TabOk.on {T:Tab} (b:Bool) (h:TabOk P T):TabOk P (T.on b):=fun t ty ht=>by
 have k:=h t ty ht
 exact ⟨k.1,k.2,k.3,k.4,k.5⟩
end
def setD (rows:List (List D)) (k j:Nat) (d:D):List (List D):=rows.set k ((rows.getD k []).set j d)
theorem oB (rows:List (List D)) (k j:Nat) (d:D):(setD rows k j d).length=rows.length:=List.length_set
theorem pJ {rows:List (List D)} {k j:Nat} {d:D} {k' : Nat} {row:List D} (hk:k < rows.length) (h:(setD rows k j d)[k']? = some row) :
 ∃ r,rows[k']? = some r∧row.length=r.length∧(k' = k→row=r.set j d)∧(k' ≠ k→row=r):=by
 unfold setD at h
 by_cases e:k' = k
 · subst e
   rw [List.getElem?_set_self hk] at h
   have h:=jbR h
   have hr:rows.getD k' []=rows[k']:=by simp [jbT,jbN hk]
   rw [hr] at h
   exact ⟨_,jbN hk,by rw [← h,List.length_set],fun _=>h.symm,fun h=>absurd rfl h⟩
 · rw [List.getElem?_set_ne (Ne.symm e)] at h
   exact ⟨row,h,rfl,fun h=>absurd h e,fun _=>rfl⟩
theorem jbc {k n j m:Nat} (hk:k < n) (hj:j < m):k * m+j < n * m:=by
 have:k * m+m≤n * m:=by rw [← jc4];exact jcg _ hk
 omega
theorem tH {k k' j j' m:Nat} (hj:j < m) (hj' : j' < m) (h:k * m+j=k' * m+j'):k=k' ∧ j=j' := by
 have h1:(k * m+j) / m=k:=by rw [jdz,Nat.mul_add_div (by omega),Nat.div_eq_of_lt hj,jdr]
 have h2:(k' * m+j') / m=k' := by rw [jdz,Nat.mul_add_div (by omega),Nat.div_eq_of_lt hj',jdr]
 have:k=k' := by rw [← h1, ← h2,h]
 subst this
 exact ⟨rfl,by omega⟩
section
variable {T:Tab} {w:World} {F:Nat→Prop} {e:TypeId} {ty:Ty} {g n cap:Nat} {rows:List (List D)}
theorem DeepV.part (h:DeepV T w F (.l e) (.slice (some ⟨g,0,none⟩) n cap) (.l rows)) (he:T e=some ty) {k j:Nat} {ct:CT} (hk:k < n) (hj:ty.cts[j]? = some ct) {o:Nat} (ho:k * ty.cts.length+j=o) :
 n=rows.length∧F g∧g < w.heap.size∧∃ (u:Value) (d:D) (G:Nat→Prop),w.cell? ⟨g,o,none⟩=some u∧w.frozen? ⟨g,o,none⟩=false∧(rows.getD k [])[j]? = some d ∧
  DeepV T w G ct u d∧(∀ b,G b→F b∧b ≠ g) ∧
  (∀ w' d',(∀ b,F b→¬ G b→w'.heap[b]? = w.heap[b]?)→DeepV T w' G ct u d' → DeepV T w' F (.l e) (.slice (some ⟨g,0,none⟩) n cap) (.l (setD rows k j d'))) ∧
  ((∀ e',ct ≠ .l e')→∀ u' d',RdR T w (fun _=>False) ct u' d' → DeepV T (w.setCell ⟨g,o,none⟩ u') F (.l e) (.slice (some ⟨g,0,none⟩) n cap) (.l (setD rows k j d'))):=by
 subst ho
 obtain ⟨ty',xs,G,h1,h2,h3,h4,h5,h6,h7⟩:=h.inv
 obtain rfl:ty=ty' := jbR (he.symm.trans h1)
 obtain ⟨A',c',hs⟩:=h.slice
 obtain rfl:n=rows.length:=by cases hs;rfl
 clear hs
 have hjl:j < ty.cts.length:=(jbY.1 hj).1
 have hlt:=jbc hk hjl
 have hx:xs.length=rows.length * ty.cts.length:=h2.1
 have hrow:rows[k]? = some (rows.getD k []):=by simp [jbT,jbN hk]
 have hrl:=h3 k _ hrow
 have hd:(rows.getD k [])[j]? = some ((rows.getD k [])[j]'(by omega)):=jbN (by omega)
 have hu:xs[k * ty.cts.length+j]? = some (xs.getD (k * ty.cts.length+j) undef):=by simp [jbT,jbN (show k * ty.cts.length+j < xs.length by omega)]
 have hcell:=h2.cells (g:=g) rfl _ _ hu
 rw [Addr.add_mid,jcv] at hcell
 have hF:F g:=(h4 g).2 (.inl rfl)
 have hD:=h7 k j ct _ _ hrow hj hd
 obtain ⟨cur,hcur,hn1,hn2,hn3,hn4⟩:∃ cur,w.heap[g]? = some (.cells cur e (0,0))∧rows.length≤cap∧cap≤maxLen∧cur.size=cap * ty.cts.length∧cur.toList.take (rows.length * ty.cts.length)=xs:=by
  rcases h2.2 with ⟨e1,_⟩|⟨g',cap',cur,e1,_,e3,e4,e5,e6,e7⟩
  · cases e1
  · cases e1;exact ⟨cur,e3,e4,e5,e6,e7⟩
 have hfr:w.frozen? ⟨g,k * ty.cts.length+j,none⟩=false:=by simp [World.frozen?,hcur]
 have step:∀ (w' : World) (u' : Value) (d' : D) (cur' : Array Value),w'.heap[g]? = some (.cells cur' e (0,0))→cur'.size=cur.size→cur'.toList.take (rows.length * ty.cts.length)=xs.set (k * ty.cts.length+j) u' →
  (∀ b,F b→b ≠ g→¬ G (k * ty.cts.length+j) b→w'.heap[b]? = w.heap[b]?)→DeepV T w' (G (k * ty.cts.length+j)) ct u' d' → DeepV T w' F (.l e) (.slice (some ⟨g,0,none⟩) rows.length cap) (.l (setD rows k j d')):=by
  intro w' u' d' cur' c1 c2 c3 c4 c5
  have hl:=oB rows k j d'
  rw [← hl] at c3 hn1 ⊢
  refine .sl F e ty _ _ (xs.set (k * ty.cts.length+j) u') G he ⟨by rw [List.length_set,hl];exact hx,.inr ⟨g,cap,cur',rfl,jbP _,c1,hn1,hn2,c2.trans hn3,c3⟩⟩ (fun k' row hr=>?_) h4 (fun i b hi=>by rw [hl];exact h5 i b hi) h6 (fun k' j' ct' dd row hr hc hrd=>?_)
  · obtain ⟨r,a1,a2,_⟩:=pJ hk hr
    exact a2.trans (h3 k' r a1)
  · obtain ⟨r,a1,a2,a3,a4⟩:=pJ hk hr
    have hj' : j' < ty.cts.length:=(jbY.1 hc).1
    have hk' : k' < rows.length:=(jbY.1 a1).1
    have other:k' * ty.cts.length+j' ≠ k * ty.cts.length+j→r[j']? = some dd→DeepV T w' (G (k' * ty.cts.length+j')) ct' ((xs.set (k * ty.cts.length+j) u').getD (k' * ty.cts.length+j') undef) dd:=by
     intro hne hrd'
     rw [jbT,List.getElem?_set_ne (Ne.symm hne), ← jbT]
     refine (h7 k' j' ct' dd r a1 hc hrd').move fun b hb=>?_
     exact c4 b ((h4 b).2 (.inr ⟨_,hb⟩)) (fun hb' => (h5 _ b hb).1 (by rw [hb'];rfl)) (fun hb' => hne (h6 _ _ b hb hb'))
    by_cases ek:k' = k
    · subst ek
      rw [a3 rfl] at hrd
      by_cases ej:j' = j
      · subst ej
        obtain rfl:ct=ct' := jbR (hj.symm.trans hc)
        rw [List.getElem?_set_self (by rw [h3 k' r a1];exact hj')] at hrd
        obtain rfl:=jbR hrd
        rw [jbT,List.getElem?_set_self (by omega)]
        exact c5
      · rw [List.getElem?_set_ne (Ne.symm ej)] at hrd
        exact other (fun h=>ej (tH hj' hjl h).2) hrd
    · rw [a4 ek] at hrd
      exact other (fun h=>ek (tH hj' hjl h).1) hrd
 refine ⟨rfl,hF,(jcT.1 hcur).1,_,_,_,hcell,hfr,hd,hD,fun b hb=>⟨(h4 b).2 (.inr ⟨_,hb⟩),fun hb' => (h5 _ b hb).1 (by rw [hb'];rfl)⟩,fun w' d' hw hd' => ?_,fun hc u' d' hr=>?_⟩
 · refine step w' _ d' cur ?_ rfl ?_ (fun b h1 _ h3=>hw b h1 h3) hd'
   · rw [hw g hF (fun hb=>(h5 _ g hb).1 rfl)];exact hcur
   · rw [hn4,jbT,jbN (show k * ty.cts.length+j < xs.length by omega),Option.getD_some,List.set_getElem_self]
 · refine step _ u' d' (cur.setIfInBounds (k * ty.cts.length+j) u') ?_ (by simp) ?_ (fun b _ hb _=>?_) (.flat _ _ _ _ (hD.noF hc) hc (hr.plain hc))
   · simp [World.setCell,Array.getElem?_modify,hcur]
   · rw [Array.toList_setIfInBounds, ← hn4,List.take_set]
   · simp [World.setCell,Array.getElem?_modify,Ne.symm hb]
end
theorem DeepV.some {T:Tab} {w:World} {F:Nat→Prop} {e:TypeId} {A:Option Addr} {n c:Nat} {rows:List (List D)} (h:DeepV T w F (.l e) (.slice A n c) (.l rows)) (hn:0 < n):∃ g,A=Option.some ⟨g,0,none⟩:=by
 obtain ⟨ty,xs,G,h1,h2,_⟩:=h.inv
 rcases h2.2 with ⟨e1,e2⟩|⟨g,cap,cur,e1,_⟩
 · cases e1;omega
 · cases e1;exact ⟨g,rfl⟩
theorem DeepV.len {T:Tab} {w:World} {F:Nat→Prop} {e:TypeId} {A:Option Addr} {n c:Nat} {rows:List (List D)} (h:DeepV T w F (.l e) (.slice A n c) (.l rows)):n=rows.length:=by
 obtain ⟨A',c',hs⟩:=h.slice
 cases hs;rfl
theorem DeepV.short {T:Tab} {w:World} {F:Nat→Prop} {e:TypeId} {v:Value} {rows:List (List D)} (h:DeepV T w F (.l e) v (.l rows)):rows.length≤maxLen:=by
 obtain ⟨ty,xs,G,h1,h2,_⟩:=h.inv
 rcases h2.2 with ⟨_,e2⟩|⟨g,cap,cur,_,_,_,e4,e5,_⟩
 · omega
 · exact jbV e4 e5
section
mutual
def cD:D→Nat
 | .i _=>1
 | .s _=>1
 | .b _=>0
 | .l rows=>ad rows
def cRow:List D→Nat
 | []=>0
 | d :: r=>cD d+cRow r
def ad:List (List D)→Nat
 | []=>0
 | r :: rs=>cRow r+ad rs
end
mutual
def mkD (mt:Int→ByteArray):Int→D→D
 | k,.i _=>.i k
 | k,.s _=>.s (mt k)
 | k,.b x=>.b x
 | k,.l rows=>.l (ah mt k rows)
def gT (mt:Int→ByteArray):Int→List D→List D
 | k,[]=>[]
 | k,d :: r=>mkD mt k d :: gT mt (k+cD d) r
def ah (mt:Int→ByteArray):Int→List (List D)→List (List D)
 | k,[]=>[]
 | k,r :: rs=>gT mt k r :: ah mt (k+cRow r) rs
end
variable {mt:Int→ByteArray}
theorem ff:∀ a b:List (List D),ad (a++b)=ad a+ad b
 | [],b=>by simp [ad]
 | r :: rs,b=>by simp only [jbU,ad,ff rs b];omega
theorem dY:∀ (a b:List (List D)) (k:Int),ah mt k (a++b)=ah mt k a++ah mt (k+ad a) b
 | [],b,k=>by simp [ah,ad]
 | r :: rs,b,k=>by
   simp only [jbU,ah,ad,dY rs b]
   rw [show k+(cRow r:Int)+(ad rs:Int)=k+((cRow r+ad rs:Nat):Int) by omega]
theorem aK:∀ (a:List (List D)) (k:Int),(ah mt k a).length=a.length
 | [],k=>by simp [ah]
 | r :: rs,k=>by simp [ah,aK rs]
mutual
theorem cD_mk:∀ (d:D) (k:Int),cD (mkD mt k d)=cD d
 | .i _,k=>by simp [mkD,cD]
 | .s _,k=>by simp [mkD,cD]
 | .b _,k=>by simp [mkD,cD]
 | .l rows,k=>by simp only [mkD,cD];exact aN rows k
theorem um:∀ (d:List D) (k:Int),cRow (gT mt k d)=cRow d
 | [],k=>by simp [gT]
 | d :: r,k=>by simp only [gT,cRow,cD_mk d k,um r]
theorem aN:∀ (d:List (List D)) (k:Int),ad (ah mt k d)=ad d
 | [],k=>by simp [ah]
 | r :: rs,k=>by simp only [ah,ad,um r k,aN rs]
end
theorem bd {a:List (List D)} {i:Nat} (hi:i < a.length):ad (a.take (i+1))=ad (a.take i)+cRow (a.getD i []):=by
 rw [jcN,jbN hi,ff]
 simp [ad,jbT,jbN hi]
theorem bP (a:List (List D)) (i:Nat):ad (a.take i)≤ad a:=by
 have:=ff (a.take i) (a.drop i)
 rw [List.take_append_drop] at this
 omega
def mkAt (mt:Int→ByteArray) (k:Int) (a:List (List D)) (i:Nat):List (List D):=ah mt k (a.take i)++a.drop i
theorem dh (k:Int) (a:List (List D)):mkAt mt k a 0=a:=by simp [mkAt,ah]
theorem d7 {k:Int} {a:List (List D)} {i:Nat} (h:a.length≤i):mkAt mt k a i=ah mt k a:=by
 unfold mkAt;rw [jcr h,jdE h,jdc]
theorem b8 (k:Int) (a:List (List D)) (i:Nat):(mkAt mt k a i).length=a.length:=by
 unfold mkAt;rw [jbQ,aK, ← jbQ,List.take_append_drop]
theorem dZ {k:Int} {a:List (List D)} {i:Nat} (hi:i < a.length):(mkAt mt k a i).getD i []=a.getD i []:=by
 unfold mkAt
 rw [jbT,jcZ (by rw [aK,jb7];omega),aK,jb7,jc3 (by omega),Nat.sub_self,jcY,jdr, ← jbT]
theorem di {k:Int} {a:List (List D)} {i:Nat} (hi:i < a.length) {r:List D} (hr:r=gT mt (k+ad (a.take i)) (a.getD i [])):(mkAt mt k a i).set i r=mkAt mt k a (i+1):=by
 subst hr
 unfold mkAt
 have hl:(ah mt k (a.take i)).length=i:=by rw [aK,jb7];omega
 have h2:a.getD i []=a[i]:=by simp [jbT,jbN hi]
 have h1:a.drop i=a[i] :: a.drop (i+1):=List.drop_eq_getElem_cons hi
 rw [List.set_append_right _ _ (by omega),hl,Nat.sub_self,h1,List.set_cons_zero,jcN,jbN hi,dY,h2]
 simp [ah]
theorem aE {rows:List (List D)} {k j:Nat} {d:D} {r:List D} (hk:k < rows.length):setD (rows.set k r) k j d=rows.set k (r.set j d):=by
 unfold setD
 rw [jbT,List.getElem?_set_self hk,Option.getD_some,List.set_set]
theorem dU {rows:List (List D)} {k j:Nat} {d:D} {r:List D} (hr:rows.getD k []=r):setD rows k j d=rows.set k (r.set j d):=by
 unfold setD;rw [hr]
theorem cv {k:Int} {a:List (List D)} {i:Nat} (hi:i < a.length):(ah mt k a).getD i []=gT mt (k+ad (a.take i)) (a.getD i []):=by
 have h:=dY (mt:=mt) (a.take i) (a.drop i) k
 rw [List.take_append_drop] at h
 rw [h,jbT,jcZ (by rw [aK,jb7];omega),aK,jb7,jc3 (by omega),Nat.sub_self,List.drop_eq_getElem_cons hi]
 simp [ah,jbT,jbN hi]
theorem bJ {rows:List (List D)} {k j:Nat} {rows2:List (List D)} (hk:k < rows.length) (hj:(rows.getD k [])[j]? = some (.l rows2)):wD (.l rows2) < wD (.l rows):=by
 have h1:wRow (rows.getD k [])≤aO rows:=by
  have a:=k8 (a:=rows) (i:=(k:Int)) (jb2 _) (by omega)
  have b:=pn rows ((k:Int)+1).toNat
  rw [jca] at a
  omega
 have h2:∀ (r:List D) (j:Nat),r[j]? = some (.l rows2)→wD (.l rows2)≤wRow r:=by
  intro r
  induction r with
  | nil=>intro j h;simp at h
  | cons d r ih =>
    intro j h
    cases j with
    | zero=>obtain rfl:=jbR h;simp only [wRow];omega
    | succ j=>have:=ih j (by simpa using h);simp only [wRow];omega
 have h3:=h2 _ _ hj
 have h4:wD (.l rows)=rows.length+aO rows:=by simp [wD]
 omega
structure MkEnd (T:Tab) (w w' : World) (F:Nat→Prop) (e:TypeId) (v:Value) (rows:List (List D)):Prop where
 os:w'.os=w.os
 tape:w'.tape=w.tape
 output:w'.output=w.output
 size:w.heap.size≤w'.heap.size
 block:∀ b,b < w.heap.size→¬ F b→w'.heap[b]? = w.heap[b]?
 deep:DeepV T w' F (.l e) v (.l rows)
def MkOk (P:Program) (T:Tab) (mt:Int→ByteArray) (f:FuncId) (e:TypeId) (n:Nat):Prop :=
 ∀ (w:World) (F:Nat→Prop) (v:Value) (rows:List (List D)) (k:Int),1≤k→k+ad rows≤4611686018427387904→wD (.l rows) < n→GlR T w F→DeepV T w F (.l e) v (.l rows) →
   Calls P f #[v,.int .i64 k] w fun x w' => x=.returned (.int .i64 (k+ad rows))∧MkEnd T w w' F e v (ah mt k rows)
theorem DeepV.wf {T:Tab} {w:World} {F:Nat→Prop} {ct:CT} {v:Value} {d:D} (h:DeepV T w F ct v d):WfD T ct d:=by
 induction h with
 | flat F ct v d h1 h2 h3=>exact h3.wf
 | sl F e ty v rows xs G h1 h2 h3 h4 h5 h6 _ ih =>
   refine .sl e ty rows h1 ?_ h3 ih
   rcases h2.2 with ⟨_,hn⟩|⟨g,cap,cur,_,_,_,e4,e5,_⟩
   · omega
   · exact jbV e4 e5
theorem DeepV.row {T:Tab} {w:World} {F:Nat→Prop} {e:TypeId} {v:Value} {rows:List (List D)} {ty:Ty} (h:DeepV T w F (.l e) v (.l rows)) (he:T e=Option.some ty) {k:Nat} (hk:k < rows.length):WfRow T ty.cts (rows.getD k []):=by
 obtain ⟨ty',xs,G,h1,h2,h3,h4,h5,h6,h7⟩:=h.inv
 obtain rfl:ty=ty' := jbR (he.symm.trans h1)
 have hrow:rows[k]? = Option.some (rows.getD k []):=by simp [jbT,jbN hk]
 exact ⟨h3 k _ hrow,fun j ct d hc hd=>(h7 k j ct d _ hrow hc hd).wf⟩
section
variable {T:Tab} {ct:CT} {cts:List CT} {r:List D} {d:D}
theorem WfRow.cut (h:WfRow T (ct :: cts) r):∃ d r',r=d :: r' ∧ WfD T ct d∧WfRow T cts r' := by
 match r,h with
 | d :: r',h=>exact ⟨d,r',rfl,h.2 0 ct d rfl rfl,by simpa using h.1,fun j ct' d' a b=>h.2 (j+1) ct' d' (by simpa using a) (by simpa using b)⟩
 | [],h=>have:=h.1;simp at this
theorem WfRow.end_ (h:WfRow T [] r):r=[]:=jcl.1 h.1
theorem WfRow.int_ {k:IntKind} (h:WfRow T (.i k :: cts) r):∃ n r',r=.i n :: r' ∧ WfRow T cts r' := by
 obtain ⟨d,r',rfl,hd,hr⟩:=h.cut
 cases hd;exact ⟨_,_,rfl,hr⟩
theorem WfRow.str_ (h:WfRow T (.s :: cts) r):∃ x r',r=.s x :: r' ∧ WfRow T cts r' := by
 obtain ⟨d,r',rfl,hd,hr⟩:=h.cut
 cases hd;exact ⟨_,_,rfl,hr⟩
theorem WfRow.sl_ {e:TypeId} (h:WfRow T (.l e :: cts) r):∃ x r',r=.l x :: r' ∧ WfRow T cts r' := by
 obtain ⟨d,r',rfl,hd,hr⟩:=h.cut
 cases hd with
 | nil=>exact ⟨_,_,rfl,hr⟩
 | sl=>exact ⟨_,_,rfl,hr⟩
end
section
variable {T:Tab} {w w1 w2:World} {F G:Nat→Prop} {e e2:TypeId} {v u:Value} {rows rows1 rows2:List (List D)}
theorem MkEnd.refl (h:DeepV T w F (.l e) v (.l rows)):MkEnd T w w F e v rows:=⟨rfl,rfl,rfl,jb4 _,fun _ _ _=>rfl,h⟩
theorem MkEnd.store (h:MkEnd T w w1 F e v rows1) {g o:Nat} {x:Value} (hF:F g) (hd:DeepV T (w1.setCell ⟨g,o,none⟩ x) F (.l e) v (.l rows2)):MkEnd T w (w1.setCell ⟨g,o,none⟩ x) F e v rows2:=by
 refine ⟨h.os,h.tape,h.output,by simpa [World.setCell] using h.size,fun b hb hn=>?_,hd⟩
 have hne:g ≠ b:=fun e=>hn (e ▸ hF)
 rw [← h.block b hb hn]
 simp [World.setCell,Array.getElem?_modify,hne]
theorem MkEnd.below (h:MkEnd T w w1 F e v rows1) (hb:Below w1.heap.size w1 w2):MkEnd T w w2 F e v rows1 :=
 ⟨hb.os.trans h.os,hb.tape.trans h.tape,hb.output.trans h.output,jbV h.size hb.size,fun b h1 h2=>(hb.block b (jcM h1 h.size)).trans (h.block b h1 h2),h.deep.move fun b hF=>hb.block b (h.deep.lt b hF)⟩
theorem MkEnd.call (h:MkEnd T w w1 F e v rows1) (h2:MkEnd T w1 w2 G e2 u rows2) (hG:∀ b,G b→F b) {rows3:List (List D)} (hd:DeepV T w2 F (.l e) v (.l rows3)):MkEnd T w w2 F e v rows3 :=
 ⟨h2.os.trans h.os,h2.tape.trans h.tape,h2.output.trans h.output,jbV h.size h2.size,fun b a c=>(h2.block b (jcM a h.size) fun hg=>c (hG b hg)).trans (h.block b a c),hd⟩
theorem MkEnd.gl (h:MkEnd T w w1 F e v rows1) (hg:GlR T w F):GlR T w1 F:=hg.move ⟨h.size,h.block⟩ fun _ _ h=>h
theorem GlR.less (hg:GlR T w F) (h:∀ b,G b→F b):GlR T w G:=hg.move ⟨jb4 _,fun _ _ _=>rfl⟩ fun b _ hb=>h b hb
end
theorem aU {k:Int} (h1:1≤k) (h2:k≤4611686018427387904):inK .i64 k:=by
 have e1:IntKind.i64.min = -9223372036854775808:=by decide
 have e2:IntKind.i64.max=9223372036854775807:=by decide
 rw [inK,e1,e2];omega
def spMT (mt:Int→ByteArray):FSpec where
 pre args:=∃ k:Int,1≤k∧k≤4611686018427387904∧args=[.val false [.i .i64 k]]
 res args:=match args with
  | [.val _ [.i _ k]]=>.val false [.s (mt k)]
  | _=>.none
theorem FOk.mark {P:Program} {T:Tab} {f:FuncId} {mt:Int→ByteArray} (h:FOk P T f (spMT mt)) {w:World} {F:Nat→Prop} (hF:∀ b,F b→b < w.heap.size) (hgl:GlR T w F) {k:Int} (h1:1≤k) (h2:k≤4611686018427387904) :
 Calls P f #[.int .i64 k] w fun e w' => e=.returned (.string (mt k))∧(mt k).size≤maxLen∧Below w.heap.size w w' := by
 have hk:inK .i64 k:=by
  have e1:IntKind.i64.min = -9223372036854775808:=by decide
  have e2:IntKind.i64.max=9223372036854775807:=by decide
  rw [inK,e1,e2];omega
 refine (h.ok rfl w F [.val false [.i .i64 k]] [.int .i64 k] hF (ArgsR.cons ⟨_,rfl,rfl,hk⟩ ArgsR.nil) hgl ⟨k,h1,h2,rfl⟩).mono ?_
 rintro e w' ⟨v,bk,he,hb,⟨c,hc,hv⟩,_⟩
 obtain rfl:CV.s (mt k)=c:=by simpa using hc
 obtain ⟨rfl,hs⟩:=hv
 exact ⟨he,hs,hb⟩
theorem tR {X:List (List D)} {k:Nat} {r:List D} (hk:k < X.length):(X.set k r).getD k []=r:=by
 rw [jbT,List.getElem?_set_self hk];rfl
theorem cQ {X:List (List D)} {k c:Nat} {r:List D} {d d' : D} (hk:k < X.length) (h:((X.set k r).getD k [])[c]? = some d) (h2:r[c]? = some d'):d' = d:=by
 rw [tR hk,h2] at h;exact jbR h
theorem vD {X:List (List D)} {k c:Nat} {r:List D} {d d' : D} (hr:X.getD k []=r) (h:(X.getD k [])[c]? = some d) (h2:r[c]? = some d'):d' = d:=by
 rw [hr,h2] at h;exact jbR h
end
end Go.Proofs.YtdjfhmghebommaaGreatDoor.Ab
