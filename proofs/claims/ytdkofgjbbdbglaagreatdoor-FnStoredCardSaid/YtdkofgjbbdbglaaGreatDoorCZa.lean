/- A part. -/
import Derived.Test.YtdkofgjbbdbglaaGreatDoorCYv
namespace Go.Proofs.YtdkofgjbbdbglaaGreatDoor.Ab
open Go.RowKit
set_option linter.all false
section
def Rest (s:ByteArray) (k:Nat) (l:List UInt8):Prop:=k≤s.size∧s.data.toList.drop k=l
theorem Rest.step {s:ByteArray} {k:Nat} {w q:List UInt8} (h:Rest s k (w++q)):Rest s (k+w.length) q:=by
 obtain ⟨h1,h2⟩:=h
 have hl:(s.data.toList.drop k).length=s.size - k:=by rw [jdL,jdn];rfl
 rw [h2,jc8] at hl
 refine ⟨by omega,?_⟩
 rw [← List.drop_drop,h2]
 exact List.drop_left
theorem Rest.size {s:ByteArray} {k:Nat} {l:List UInt8} (h:Rest s k l):s.size=k+l.length:=by
 have hl:(s.data.toList.drop k).length=s.size - k:=by rw [jdL,jdn];rfl
 rw [h.2] at hl
 have:=h.1
 omega
theorem Rest.st {s:ByteArray} {k:Nat} {l:List UInt8} (h:Rest s k l) (w:ByteArray):stB s (k:Int) w=w.data.toList.isPrefixOf l:=by
 rw [← ta h.1,jv,h.2]
 rfl
theorem Rest.yes {s:ByteArray} {k:Nat} {w:ByteArray} {q:List UInt8} (h:Rest s k (w.data.toList++q)):stB s (k:Int) w=true:=by
 rw [h.st,List.isPrefixOf_iff_prefix]
 exact List.prefix_append _ _
theorem Rest.no {s:ByteArray} {k:Nat} {b:UInt8} {q:List UInt8} (h:Rest s k (b :: q)) {w:ByteArray} {c:UInt8} {r:List UInt8} (hw:w.data.toList=c :: r) (hn:c ≠ b):stB s (k:Int) w=false:=by
 rw [h.st,hw]
 show (c == b && _)=false
 rw [show (c == b)=false by simpa using hn]
 rfl
theorem Rest.ext {s:ByteArray} {k:Nat} {w q:List UInt8} (h:Rest s k (w++q)):s.extract k (k+w.length)=⟨w.toArray⟩:=by
 apply jes
 apply jep
 rw [ext_list,List.drop_take,h.2,show k+w.length - k=w.length by omega]
 simp
theorem Rest.run {s:ByteArray} {k:Nat} {w q:List UInt8} (h:Rest s k (w++q)) {P:Int→Bool} (hw:∀ b ∈ w,P (b.toNat:Int)=true) (hq:∀ b r,q=b :: r→P (b.toNat:Int)=false):runB P s k=k+w.length:=by
 unfold runB
 rw [h.2,List.takeWhile_append_of_pos hw]
 have:(q.takeWhile fun b=>P (b.toNat:Int))=[]:=by
  cases q with
  | nil=>rfl
  | cons b r=>exact je9 (by rw [hq b r rfl];decide)
 rw [this,jeu]
def Sep (q:List UInt8):Prop:=∀ b r,q=b :: r→mdB (b.toNat:Int)=false
theorem k7 {b:UInt8} {r:List UInt8} (h:mdB (b.toNat:Int)=false):Sep (b :: r):=by
 intro b' r' he
 obtain ⟨rfl,rfl⟩:=jet he
 exact h
theorem sA:Sep []:=fun b r h=>by cases h
theorem xE {b:UInt8} (h:mdB (b.toNat:Int)=false):digB (b.toNat:Int)=false:=by
 unfold mdB at h
 rw [Bool.or_eq_false_iff] at h
 exact h.2
theorem mA {u:Nat}:∀ b ∈ Lib.decDigits u,digB (b.toNat:Int)=true:=by
 intro b hb
 have:=cj u b hb
 unfold digB
 rw [jdj,decide_eq_true_eq,decide_eq_true_eq]
 omega
theorem tL (n:Int):∀ b ∈ Lib.itoa n,mdB (b.toNat:Int)=true:=by
 intro b hb
 have hd:∀ u,b ∈ Lib.decDigits u→mdB (b.toNat:Int)=true:=fun u h=>by
  unfold mdB;rw [mA b h];simp
 unfold Lib.itoa at hb
 split at hb
 · rcases jde.1 hb with h|h
   · rw [h];rfl
   · exact hd _ h
 · exact hd _ hb
theorem e9 (n:Int):∃ b r,Lib.itoa n=b :: r∧mdB (b.toNat:Int)=true:=by
 have hm:=tL n
 cases h:Lib.itoa n with
 | nil =>
   have:=mq n
   have e:(aB n).size=(Lib.itoa n).length:=jdE
   rw [e,h] at this
   exact absurd rfl this
 | cons b r=>exact ⟨b,r,rfl,hm b (by rw [h];exact jdB ..)⟩
theorem uC {b c:UInt8} (h:mdB (b.toNat:Int)=true) (hc:mdB (c.toNat:Int)=false):c ≠ b:=fun e=>by rw [e,h] at hc;cases hc
theorem Rest.num {s:ByteArray} {k:Nat} {n:Int} {q:List UInt8} (h:Rest s k (Lib.itoa n++q)) (hq:Sep q) (hn:inR n (-1000000000) 1000000000=true) :
 intP s (k:Int)=(n,((k+(Lib.itoa n).length:Nat):Int))∧∀ b,bm s (k:Int) b=(vNum n,((k+(Lib.itoa n).length:Nat):Int),b):=by
 unfold inR at hn
 rw [jdj,decide_eq_true_eq,decide_eq_true_eq] at hn
 have hp:prs (-999999999999) 999999999999 (aB n)=(n,true):=eU (by omega) (by omega) rfl
 have e1:numE s k=k+(Lib.itoa n).length:=by
  unfold numE
  by_cases hneg:n < 0
  · have hi:Lib.itoa n=45 :: Lib.decDigits n.natAbs:=by unfold Lib.itoa;rw [if_pos hneg]
    rw [hi] at h
    have hs:=h.size
    have h45:bAt s k=45:=by
     have:=drop_at (s:=s) (k:=k) (by rw [hs,jdc,jdl];omega)
     rw [h.2,jdc] at this
     show ((s.data.getD k 0).toNat:Int)=45
     rw [← (jet this).1];rfl
    have hsg:sgnK s k=k+1:=if_pos ⟨by rw [hs,jdc,jdl];omega,h45⟩
    have h2:Rest s (k+1) (Lib.decDigits n.natAbs++q):=Rest.step (w:=[45]) h
    rw [hsg,h2.run mA (fun b r e=>xE (hq b r e)),hi,jdl]
    omega
  · have hi:Lib.itoa n=Lib.decDigits n.toNat:=by unfold Lib.itoa;rw [if_neg hneg]
    rw [hi] at h
    have hsg:sgnK s k=k:=by
     refine if_neg fun ⟨h1,h2⟩=>?_
     have hd:=drop_at h1
     rw [h.2] at hd
     cases he:Lib.decDigits n.toNat with
     | nil=>exact fc _ he
     | cons b r =>
       rw [he,jdc] at hd
       have hb:=mA b (by rw [he];exact jdB ..)
       have:bAt s k=(b.toNat:Int):=by show ((s.data.getD k 0).toNat:Int)=_;rw [← (jet hd).1]
       rw [this] at h2
       rw [h2] at hb
       cases hb
    rw [hsg,h.run mA (fun b r e=>xE (hq b r e)),hi]
 have e2:dJ s (k:Int)=k+(Lib.itoa n).length:=h.run (P:=mdB) (tL n) hq
 have e3:s.extract k (k+(Lib.itoa n).length)=aB n:=h.ext
 refine ⟨?_,fun b=>?_⟩
 · have:prsN s ((k:Int).toNat)=(n,true):=by show prs _ _ (s.extract k (numE s k))=_;rw [e1,e3,hp]
   unfold intP
   rw [this]
   show (n,(numE s k:Int))=_
   rw [e1]
 · have:prsI s (k:Int)=(n,true):=by show prs _ _ (s.extract k (dJ s (k:Int)))=_;rw [e2,e3,hp]
   unfold bm
   rw [this,e2]
   simp
theorem okTxt_at {t:ByteArray} (h:okTxt t=true):∀ b ∈ t.data.toList,((b.toNat:Int) != 34)=true:=by
 intro b hb
 unfold okTxt at h
 rw [jdj,allB_iff] at h
 obtain ⟨i,hi,rfl⟩:=dK 0 hb
 have hl:t.data.toList.length=t.size:=jdn
 have:=h.1 i (by omega)
 unfold bF at this
 rw [jdz,Bool.or_eq_false_iff,Bool.or_eq_false_iff] at this
 have h2:=this.2
 have e:bAt t i=((t.data.toList.getD i 0).toNat:Int):=by
  show ((t.data.getD i 0).toNat:Int)=_
  rw [jea,jdb,jd9]
 rw [e] at h2
 rw [bne,h2];rfl
theorem Rest.quo {s:ByteArray} {k:Nat} {t:ByteArray} {q:List UInt8} (h:Rest s k (34 :: (t.data.toList++34 :: q))) (ht:∀ b ∈ t.data.toList,((b.toNat:Int) != 34)=true):stB s (k:Int) QUO=true∧quoP s (k:Int)=(t,((k+2+t.size:Nat):Int)):=by
 have hq:stB s (k:Int) QUO=true:=Rest.yes (w:=QUO) h
 have h2:Rest s (k+1) (t.data.toList++34 :: q):=Rest.step (w:=[34]) h
 have hl:t.data.toList.length=t.size:=jdn
 have e:quoE s (k:Int)=k+1+t.size:=by
  show runB _ s (k+1)=_
  rw [h2.run (P:=fun b=>b != 34) ht (fun b r e=>by obtain ⟨rfl,_⟩:=jet e;rfl),hl]
 have hs:=h2.size
 rw [jc8,jdl,hl] at hs
 have e3:s.extract (k+1) (k+1+t.size)=t:=by
  have:=h2.ext
  rw [hl] at this
  rw [this]
 refine ⟨hq,?_⟩
 unfold quoP
 rw [if_pos hq,if_neg (by omega),e]
 show (s.extract (k+1) (k+1+t.size),_)=_
 rw [e3]
 congr 1
 omega
abbrev fB (v:List D):List UInt8:=(fmtV v).data.toList
theorem jq (x y:List UInt8) (r:List (List UInt8)) (sep:List UInt8):Lib.join (x :: y :: r) sep=x++(sep++Lib.join (y :: r) sep):=by
 rw [Lib.join_cons,Lib.join_cons]
 simp [Lib.joinTail]
theorem jy (xs:List ByteArray):(brk xs).data.toList=91 :: (Lib.join (xs.map (·.data.toList)) [44,32]++[93]):=by
 unfold brk bg
 simp
theorem lq (n:Int):fB (vNum n)=Lib.itoa n:=by
 show (fmtV (vNum n)).data.toList=_
 rw [← fm1 (n:=n) (st:=0) (tx:=ES) (l4:=[]) (l5:=[]) (l6:=[]),bh]
theorem nG (t:ByteArray):fB (vTxt t)=34 :: (t.data.toList++[34]):=by
 show (fmtV (vTxt t)).data.toList=_
 rw [← fm2 (n:=0) (st:=0) (tx:=t) (l4:=[]) (l5:=[]) (l6:=[])]
 simp
theorem km (l:List (List D)):fB (vLst l)=91 :: (Lib.join (l.map fB) [44,32]++[93]):=by
 show (fmtV (vLst l)).data.toList=_
 rw [← fm3 (n:=0) (st:=0) (tx:=ES) (l4:=l) (l5:=[]) (l6:=[]),jy,jev]
 rfl
theorem mm (v w:List D) (r:List (List D)):(Lib.join ((v :: w :: r).map fB) [44,32]).length=(fB v).length+2+(Lib.join ((w :: r).map fB) [44,32]).length:=by
 show (Lib.join (fB v :: fB w :: r.map fB) [44,32]).length=(fB v).length+2+(Lib.join (fB w :: r.map fB) [44,32]).length
 rw [jq,jc8,jc8]
 show (fB v).length+(2+_)=_
 omega
section
variable (s:ByteArray)
def GS (n:Nat) (v:List D):Prop:=∀ (k:Nat) (q:List UInt8),Rest s k (fB v++q)→Sep q→parF s n (k:Int)=(v,((k+(fB v).length:Nat):Int))
def GI (d:Nat) (v:List D):Prop:=∀ (k:Nat) (q:List UInt8),Rest s k (fB v++q)→Sep q→valI s d (k:Int) true=(v,((k+(fB v).length:Nat):Int),true)
end
def Hd (v:List D):Prop:=∃ b r,fB v=b :: r∧b ≠ 93
variable {s:ByteArray}
theorem tN {n:Nat}:∀ (l:List (List D)),l ≠ []→(∀ v ∈ l,GS s n v)→∀ (m k:Nat) (out:List (List D)) (q:List UInt8),l.length≤m→Rest s k (Lib.join (l.map fB) [44,32]++93 :: q) →
 bv (parF s n) s m (k:Int) out=(out++l,((k+(Lib.join (l.map fB) [44,32]).length+1:Nat):Int))
 | [],h,_,_,_,_,_,_,_=>absurd rfl h
 | [v],_,hg,m,k,out,q,hm,hr=>by
   obtain ⟨m,rfl⟩:∃ m',m=m' + 1:=⟨m - 1,by simp at hm;omega⟩
   rw [jfa,Lib.join_one] at hr ⊢
   have hp:=hg v (jdo _) k (93 :: q) hr (k7 rfl)
   have h2:Rest s (k+(fB v).length) (93 :: q):=hr.step
   have hb:stB s (((k+(fB v).length:Nat):Int)) RBR=true:=Rest.yes (w:=RBR) h2
   rw [jcj (by rw [hp];exact decide_eq_false (by show ¬ ((k+(fB v).length:Nat):Int) < 0;omega)) (by rw [hp];exact hb),hp]
   rfl
 | v :: w :: r,_,hg,m,k,out,q,hm,hr=>by
   obtain ⟨m,rfl⟩:∃ m',m=m' + 1:=⟨m - 1,by simp at hm;omega⟩
   rw [jed,jed,jq,jdM,jdM] at hr
   have hp:=hg v (jdB ..) k _ hr (k7 rfl)
   have h2:Rest s (k+(fB v).length) (44 :: (32 :: (Lib.join ((w :: r).map fB) [44,32]++93 :: q))):=hr.step
   have hb:stB s (((k+(fB v).length:Nat):Int)) RBR=false:=h2.no (w:=RBR) (c:=93) (r:=[]) rfl (by decide)
   have hc:stB s (((k+(fB v).length:Nat):Int)) COMMA=true:=Rest.yes (w:=COMMA) h2
   have h3:Rest s (k+(fB v).length+2) (Lib.join ((w :: r).map fB) [44,32]++93 :: q):=Rest.step (w:=[44,32]) h2
   have ih:=tN (n:=n) (w :: r) (by simp) (fun x hx=>hg x (jdP _ hx)) m (k+(fB v).length+2) (out++[v]) q (by simp at hm ⊢;omega) h3
   rw [jci (by rw [hp];exact decide_eq_false (by show ¬ ((k+(fB v).length:Nat):Int) < 0;omega)) (by rw [hp];exact hb) (by rw [hp];exact notT hc),hp]
   show bv (parF s n) s m ((((k+(fB v).length:Nat):Int))+2) (out++[v])=_
   rw [show (((k+(fB v).length:Nat):Int))+2=((k+(fB v).length+2:Nat):Int) by omega,ih,mm,jdM]
   show (out++(v :: w :: r),_)=_
   congr 2
   omega
theorem tO {d:Nat}:∀ (l:List (List D)),l ≠ []→(∀ v ∈ l,GI s d v)→∀ (m k:Nat) (out:List (List D)) (q:List UInt8),l.length≤m→Rest s k (Lib.join (l.map fB) [44,32]++93 :: q) →
 bO (valI s d) s m (k:Int) true out=(out++l,((k+(Lib.join (l.map fB) [44,32]).length+1:Nat):Int),true)
 | [],h,_,_,_,_,_,_,_=>absurd rfl h
 | [v],_,hg,m,k,out,q,hm,hr=>by
   obtain ⟨m,rfl⟩:∃ m',m=m' + 1:=⟨m - 1,by simp at hm;omega⟩
   rw [jfa,Lib.join_one] at hr ⊢
   have hp:=hg v (jdo _) k (93 :: q) hr (k7 rfl)
   have h2:Rest s (k+(fB v).length) (93 :: q):=hr.step
   have hb:stB s (((k+(fB v).length:Nat):Int)) RBR=true:=Rest.yes (w:=RBR) h2
   rw [jch (by rw [hp];exact hb),hp]
   rfl
 | v :: w :: r,_,hg,m,k,out,q,hm,hr=>by
   obtain ⟨m,rfl⟩:∃ m',m=m' + 1:=⟨m - 1,by simp at hm;omega⟩
   rw [jed,jed,jq,jdM,jdM] at hr
   have hp:=hg v (jdB ..) k _ hr (k7 rfl)
   have h2:Rest s (k+(fB v).length) (44 :: (32 :: (Lib.join ((w :: r).map fB) [44,32]++93 :: q))):=hr.step
   have hb:stB s (((k+(fB v).length:Nat):Int)) RBR=false:=h2.no (w:=RBR) (c:=93) (r:=[]) rfl (by decide)
   have hc:stB s (((k+(fB v).length:Nat):Int)) COMMA=true:=Rest.yes (w:=COMMA) h2
   have h3:Rest s (k+(fB v).length+2) (Lib.join ((w :: r).map fB) [44,32]++93 :: q):=Rest.step (w:=[44,32]) h2
   have ih:=tO (d:=d) (w :: r) (by simp) (fun x hx=>hg x (jdP _ hx)) m (k+(fB v).length+2) (out++[v]) q (by simp at hm ⊢;omega) h3
   have ek:andK s ((k+(fB v).length:Nat):Int) true COMMA=((k+(fB v).length+2:Nat):Int):=by
    rw [← iZ rfl,fD hc]
    show (((k+(fB v).length:Nat):Int))+2=_
    omega
   have eb:andB s ((k+(fB v).length:Nat):Int) true COMMA=true:=by rw [← i7 rfl];exact hc
   rw [jcg (by rw [hp];exact hb),hp]
   show bO (valI s d) s m (andK s ((k+(fB v).length:Nat):Int) true COMMA) (andB s ((k+(fB v).length:Nat):Int) true COMMA) (out++[v])=_
   rw [ek,eb,ih,mm,jdM]
   show (out++(v :: w :: r),_,true)=_
   congr 2
   congr 1
   omega
theorem tX {l:List (List D)} (hne:l ≠ []) (hh:∀ v ∈ l,Hd v) {q:List UInt8} {k:Nat} (h:Rest s k (Lib.join (l.map fB) [44,32]++q)):stB s (k:Int) RBR=false:=by
 cases l with
 | nil=>exact absurd rfl hne
 | cons v r =>
   obtain ⟨b,t,hb,hn⟩:=hh v (jdB ..)
   rw [jed,Lib.join_cons,hb,jdc,jdc] at h
   exact h.no (w:=RBR) (c:=93) (r:=[]) rfl (fun e=>hn e.symm)
theorem xI {n:Nat} {l:List (List D)} (hl:l.length≤64) (hg:∀ v ∈ l,GS s n v) (hh:∀ v ∈ l,Hd v) {k:Nat} {q:List UInt8} (h:Rest s k (Lib.join (l.map fB) [44,32]++93 :: q)) :
 itmP (parF s n) s (k:Int)=(l,((k+(Lib.join (l.map fB) [44,32]).length+1:Nat):Int)):=by
 by_cases hne:l=[]
 · subst hne
   have hb:stB s (k:Int) RBR=true:=Rest.yes (w:=RBR) h
   rw [jce hb]
   rfl
 · rw [jcd (tX hne hh h),tN l hne hg 64 k [] q hl h]
   rfl
theorem xJ {d:Nat} {l:List (List D)} (hg:∀ v ∈ l,GI s d v) (hh:∀ v ∈ l,Hd v) {k:Nat} {q:List UInt8} (h:Rest s k (91 :: (Lib.join (l.map fB) [44,32]++93 :: q))) (hl:l.length≤s.size+3) :
 valI s (d+1) (k:Int) true=(vLst l,((k+(Lib.join (l.map fB) [44,32]).length+2:Nat):Int),true):=by
 have hq:stB s (k:Int) QUO=false:=h.no (w:=QUO) (c:=34) (r:=[]) rfl (by decide)
 have hb:stB s (k:Int) LBR=true:=Rest.yes (w:=LBR) h
 have h2:Rest s (k+1) (Lib.join (l.map fB) [44,32]++93 :: q):=Rest.step (w:=[91]) h
 have e1:((k:Int)+1)=((k+1:Nat):Int):=by omega
 by_cases hne:l=[]
 · subst hne
   have hr:stB s ((k:Int)+1) RBR=true:=by rw [e1];exact Rest.yes (w:=RBR) h2
   rw [vI_e hq hb hr]
   rfl
 · have hr:stB s ((k:Int)+1) RBR=false:=by rw [e1];exact tX hne hh h2
   rw [vI_l hq hb hr,e1,tO l hne hg (s.size+3) (k+1) [] q hl h2]
   show (vLst ([]++l),_,_)=_
   rw [jdf]
   congr 2
   omega
end
section
inductive Can:List D→Prop
 | nil:Can vNil
 | num (n:Int):Can (vNum n)
 | txt (t:ByteArray):Can (vTxt t)
 | lst (l:List (List D)):(∀ r ∈ l,Can r)→Can (vLst l)
 | str (n m:Int):Can (vStr n m)
 | tbl (c:List ByteArray) (l:List (List D)):Can (vTbl (ac c) (l.map aI))
 | err (n:Int):Can (vErr n)
theorem tY (n:Int):Hd (vNum n):=by
 obtain ⟨b,r,h,hm⟩:=e9 n
 exact ⟨b,r,by rw [lq,h],fun e=>by rw [e] at hm;cases hm⟩
variable {s:ByteArray}
theorem iO {n:Int} {k:Nat} {q:List UInt8} (h:Rest s k (Lib.itoa n++q)) {w:ByteArray} {c:UInt8} {r:List UInt8} (hw:w.data.toList=c :: r) (hc:mdB (c.toNat:Int)=false):stB s (k:Int) w=false:=by
 obtain ⟨b,t,hb,hm⟩:=e9 n
 rw [hb,jdc] at h
 exact h.no hw (uC hm hc)
theorem tm {n:Int} (hn:inR n (-1000000000) 1000000000=true) (m:Nat):GS s (m+1) (vNum n):=by
 intro k q h hq
 rw [lq] at h ⊢
 have hN:=(h.num hq hn).1
 show parP _ s (k:Int)=_
 rw [jbS (iO h (w:=QUO) rfl rfl) (iO h (w:=LBR) rfl rfl) (iO h (w:=RNG) rfl rfl) (iO h (w:=TBO) rfl rfl) (iO h (w:=ERR) rfl rfl),hN]
theorem tn {n:Int} (hn:inR n (-1000000000) 1000000000=true):∀ d,GI s d (vNum n)
 | 0=>by
   intro k q h hq
   rw [lq] at h ⊢
   rw [yv (iO h (w:=QUO) rfl rfl),(h.num hq hn).2 true]
 | d+1=>by
   intro k q h hq
   rw [lq] at h ⊢
   rw [vI_n (iO h (w:=QUO) rfl rfl) (iO h (w:=LBR) rfl rfl),(h.num hq hn).2 true]
theorem jh {t:ByteArray} (ht:∀ b ∈ t.data.toList,((b.toNat:Int) != 34)=true) (m:Nat):GS s (m+1) (vTxt t)∧GI s m (vTxt t):=by
 have hl:(fB (vTxt t)).length=t.size+2:=by
  rw [nG,jdl,jc8,jdn];rfl
 have key:∀ (k:Nat) (q:List UInt8),Rest s k (fB (vTxt t)++q)→stB s (k:Int) QUO=true∧quoP s (k:Int)=(t,((k+(fB (vTxt t)).length:Nat):Int)):=by
  intro k q h
  have h' : Rest s k (34 :: (t.data.toList++34 :: q)):=by
   rw [nG,jdc,jdM] at h
   exact h
  have:=h'.quo ht
  refine ⟨this.1,?_⟩
  rw [this.2,hl]
  congr 2
  omega
 refine ⟨fun k q h hq=>?_,fun k q h hq=>?_⟩
 · obtain ⟨h1,h2⟩:=key k q h
   show parP _ s (k:Int)=_
   rw [jbX h1,h2]
 · obtain ⟨h1,h2⟩:=key k q h
   rw [vd h1 (by rw [h2];show ¬ ((k+(fB (vTxt t)).length:Nat):Int) < 0;omega) m,h2]
theorem oR (l:List (List D)):(fB (vLst l)).length=(Lib.join (l.map fB) [44,32]).length+2:=by
 rw [km,jdl,jc8];rfl
theorem qa {l:List (List D)} {k:Nat} {q:List UInt8} (h:Rest s k (fB (vLst l)++q)):Rest s k (91 :: (Lib.join (l.map fB) [44,32]++93 :: q)):=by
 rw [km,jdc,jdM] at h
 exact h
theorem tC {n:Nat} {l:List (List D)} (hl:l.length≤64) (hg:∀ v ∈ l,GS s n v) (hh:∀ v ∈ l,Hd v):GS s (n+1) (vLst l):=by
 intro k q h hq
 have h:=qa h
 have h2:Rest s (k+1) (Lib.join (l.map fB) [44,32]++93 :: q):=Rest.step (w:=[91]) h
 show parP (itmP (parF s n) s) s (k:Int)=_
 rw [jbW (y:=((k+1:Nat):Int)) (by omega) (h.no (w:=QUO) (c:=34) (r:=[]) rfl (by decide)) (Rest.yes (w:=LBR) h),xI hl hg hh h2,oR]
 show (vLst l,_)=_
 congr 2
 omega
theorem tD {d:Nat} {l:List (List D)} (hg:∀ v ∈ l,GI s d v) (hh:∀ v ∈ l,Hd v):GI s (d+1) (vLst l):=by
 intro k q h hq
 have hs:=h.size
 have hl:l.length≤(Lib.join (l.map fB) [44,32]).length+1:=by
  have:∀ l:List (List D),l.length≤(Lib.join (l.map fB) [44,32]).length+1:=by
   intro l
   induction l with
   | nil=>exact jc7 _
   | cons v r ih =>
     cases r with
     | nil=>exact Nat.le_add_left _ _
     | cons w r=>rw [mm,jdl];omega
  exact this l
 rw [jc8,oR] at hs
 rw [xJ hg hh (qa h) (by omega),oR]
 congr 2
theorem ur:∀ (m:Nat) (v:List D),Can v→okV v=true→elK v=true→depV v≤(m:Int)+1→GS s (m+1) v∧GI s (m+1) v∧Hd v:=by
 intro m
 induction m with
 | zero =>
   intro v hc ho hk hd
   cases hc with
   | nil=>cases hk
   | num n =>
     have hn:inR n (-1000000000) 1000000000=true:=okV_num ho rfl
     exact ⟨tm hn 0,tn hn 1,tY n⟩
   | txt t =>
     have ht:=okTxt_at (okV_txt ho rfl).1
     exact ⟨(jh ht 0).1,(jh ht 1).2,⟨34,_,nG t,by decide⟩⟩
   | lst l hl =>
     have hz:l=[]:=by
      refine jdD.1 ?_
      refine Classical.byContradiction fun hne=>?_
      have h1:=mz (rAt (lst (vLst l)) 0)
      have h2:=kc (F:=fun i=>depV (rAt (lst (vLst l)) i)) (n:=(lst (vLst l)).length) (i:=0) (by show 0 < l.length;omega)
      rw [dE] at hd
      omega
     subst hz
     exact ⟨tC (by decide) (fun v h=>absurd h (jda)) (fun v h=>absurd h (jda)),tD (fun v h=>absurd h (jda)) (fun v h=>absurd h (jda)),⟨91,_,km _,by decide⟩⟩
   | str n m=>cases hk
   | tbl c l=>cases hk
   | err n=>cases hk
 | succ m ih =>
   intro v hc ho hk hd
   cases hc with
   | nil=>cases hk
   | num n =>
     have hn:inR n (-1000000000) 1000000000=true:=okV_num ho rfl
     exact ⟨tm hn _,tn hn _,tY n⟩
   | txt t =>
     have ht:=okTxt_at (okV_txt ho rfl).1
     exact ⟨(jh ht _).1,(jh ht _).2,⟨34,_,nG t,by decide⟩⟩
   | lst l hl =>
     obtain ⟨h1,h2,_⟩:=dW (okV_list ho rfl).1
     have hel:∀ r ∈ l,GS s (m+1) r∧GI s (m+1) r∧Hd r:=by
      intro r hr
      obtain ⟨i,hi,rfl⟩:=dK [] hr
      refine ih _ (hl _ hr) (h1 i hi).2 (h1 i hi).1 ?_
      have h3:=kc (F:=fun i=>depV (rAt (lst (vLst l)) i)) (n:=(lst (vLst l)).length) (i:=i) hi
      rw [dE] at hd
      have:depV (rAt (lst (vLst l)) i)≤(m:Int)+1:=by push_cast at hd;omega
      exact this
     exact ⟨tC (jdd h2 (by decide)) (fun v h=>(hel v h).1) (fun v h=>(hel v h).2.2),tD (fun v h=>(hel v h).2.1) (fun v h=>(hel v h).2.2),⟨91,_,km _,by decide⟩⟩
   | str n m=>cases hk
   | tbl c l=>cases hk
   | err n=>cases hk
theorem nS {par:Int→List D × Int} (h:∀ k,Can (par k).1):∀ (m:Nat) (k:Int) (out:List (List D)),(∀ r ∈ out,Can r)→∀ r ∈ (bv par s m k out).1,Can r
 | 0,_,_,_,r,hr=>absurd hr (jda)
 | m+1,k,out,ho,r,hr=>by
   have ho' : ∀ r ∈ out++[(par k).1],Can r:=by
    intro r hr
    rcases jdG.1 hr with h2|h2
    · exact ho r h2
    · rw [jdX.1 h2];exact h k
   unfold bv at hr
   split at hr
   · exact absurd hr (jda)
   split at hr
   · exact ho' r hr
   split at hr
   · exact absurd hr (jda)
   · exact nS h m _ _ ho' r hr
theorem mF:∀ (n:Nat) (k:Int),Can (parF s n k).1
 | 0,_=>.nil
 | n+1,k=>by
   have itm:∀ k, ∀ r ∈ (itmP (parF s n) s k).1,Can r:=by
    intro k r hr
    unfold itmP at hr
    split at hr
    · exact absurd hr (jda)
    · exact nS (fun k=>mF n k) 64 k [] (fun r h=>absurd h (jda)) r hr
   show Can (parP (itmP (parF s n) s) s k).1
   unfold parP
   split
   · exact .txt _
   split
   · exact .lst _ (itm _)
   split
   · unfold strP
     repeat' split
     all_goals first
      | exact .nil
      | exact .str _ _
   split
   · unfold tabP
     repeat' split
     all_goals first
      | exact .nil
      | exact .tbl _ _
   split
   · exact .err _
   · exact .num _
theorem uA {val:Int→Bool→Rd3} (h:∀ k b,Can (val k b).1):∀ (m:Nat) (k:Int) (b:Bool) (out:List (List D)),(∀ r ∈ out,Can r)→∀ r ∈ (bO val s m k b out).1,Can r
 | 0,_,_,_,ho=>ho
 | m+1,k,b,out,ho=>by
   have ho' : ∀ r ∈ out++[(val k b).1],Can r:=by
    intro r hr
    rcases jdG.1 hr with h2|h2
    · exact ho r h2
    · rw [jdX.1 h2];exact h k b
   unfold bO
   split
   · exact ho
   split
   · exact ho'
   · exact uA h m _ _ _ ho'
theorem uz:∀ (d:Nat) (k:Int) (b:Bool),Can (valI s d k b).1
 | 0, k,b=>by
   unfold valI
   split
   · split
     · exact .nil
     · exact .txt _
   · exact .num _
 | d+1,k,b=>by
   unfold valI
   split
   · split
     · exact .nil
     · exact .txt _
   split
   · split
     · exact .lst [] (fun r h=>absurd h (jda))
     · exact .lst _ (uA (fun k b=>uz d k b) _ _ _ [] (fun r h=>absurd h (jda)))
   · exact .num _
theorem uy:Can (bS s).1:=by
 unfold bS
 split
 · exact .err _
 split
 · exact .str _ _
 split
 · exact .tbl _ _
 · exact uz 3 0 true
end
section
variable {s:ByteArray}
theorem Rest.whole {l:List UInt8} (h:s.data.toList=l):Rest s 0 l:=⟨jc7 _,by rw [List.drop_zero];exact h⟩
theorem rx (h1:stB s 0 ERR=false) (h2:stB s 0 RNG=false) (h3:stB s 0 TBO=false):bS s=valI s 3 0 true:=by
 unfold bS
 rw [if_neg (by rw [h1];decide),if_neg (by rw [h2];decide),if_neg (by rw [h3];decide)]
theorem rH {v:List D} (hc:Can v) (ho:okV v=true) (hk:elK v=true) (hs:s.data.toList=fB v) {n:Nat} (hn:5≤n) :
 parF s n 0=(v,(s.size:Int))∧bS s=(v,(s.size:Int),true):=by
 have hr:Rest s 0 (fB v++[]):=Rest.whole (by rw [hs,jeu])
 have hl:(fB v).length=s.size:=by rw [← hs,jdn];rfl
 have hd:depV v≤3:=by
  cases hc with
  | nil=>cases hk
  | num n=>rw [dE];exact (show (0:Int)+1≤3 by decide)
  | txt t=>rw [dE];exact (show (0:Int)+1≤3 by decide)
  | lst l h=>exact (dW (okV_list ho rfl).1).2.2
  | str n m=>cases hk
  | tbl c l=>cases hk
  | err n=>cases hk
 obtain ⟨m,rfl⟩:∃ m,n=m+1:=⟨n - 1,by omega⟩
 obtain ⟨hS,_,b,r,hb,_⟩:=ur (s:=s) m v hc ho hk (by omega)
 obtain ⟨_,hI,_⟩:=ur (s:=s) 2 v hc ho hk (by omega)
 have h1:=hS 0 [] hr sA
 have h2:=hI 0 [] hr sA
 rw [jdN,hl] at h1 h2
 have hbb:b=34∨b=91∨mdB (b.toNat:Int)=true:=by
  cases hc with
  | nil=>cases hk
  | num n =>
    obtain ⟨b',r',h',hm⟩:=e9 n
    rw [lq,h'] at hb
    obtain ⟨rfl,_⟩:=jet hb
    exact .inr (.inr hm)
  | txt t=>rw [nG] at hb;exact .inl (jet hb).1.symm
  | lst l h=>rw [km] at hb;exact .inr (.inl (jet hb).1.symm)
  | str n m=>cases hk
  | tbl c l=>cases hk
  | err n=>cases hk
 have hno:∀ {w:ByteArray} {c:UInt8} {t:List UInt8},w.data.toList=c :: t→c ≠ 34→c ≠ 91→mdB (c.toNat:Int)=false→stB s 0 w=false:=by
  intro w c t hw c1 c2 c3
  rw [jeu,hb] at hr
  refine hr.no hw ?_
  rcases hbb with rfl|rfl|h
  · exact c1
  · exact c2
  · exact uC h c3
 refine ⟨h1,?_⟩
 rw [rx (hno (w:=ERR) rfl (by decide) (by decide) rfl) (hno (w:=RNG) rfl (by decide) (by decide) rfl) (hno (w:=TBO) rfl (by decide) (by decide) rfl)]
 exact h2
theorem pY (a:Nat):decide (((a:Nat):Int) < 0)=false:=decide_eq_false (by omega)
theorem jcs (n m:Int):fB (vStr n m)=RNG.data.toList++(Lib.itoa n++(COMMA.data.toList++(Lib.itoa m++[41]))):=by
 show (fmtV (vStr n m)).data.toList=_
 rw [← fm4 (n:=n) (st:=m) (tx:=ES) (l4:=[]) (l5:=[]) (l6:=[])]
 simp [bh]
theorem yz {n m:Int} (hn:inR n (-1000000000) 1000000000=true) (hm:inR m (-1000000000) 1000000000=true) (hs:s.data.toList=fB (vStr n m)) (f:Nat) :
 parF s (f+1) 0=(vStr n m,(s.size:Int))∧bS s=(vStr n m,(s.size:Int),true):=by
 rw [jcs] at hs
 have r0:Rest s 0 (RNG.data.toList++(Lib.itoa n++(COMMA.data.toList++(Lib.itoa m++[41])))):=Rest.whole hs
 have r1:Rest s 6 (Lib.itoa n++(COMMA.data.toList++(Lib.itoa m++[41]))):=r0.step
 have n1:=r1.num (k7 rfl) hn
 have r2:Rest s (6+(Lib.itoa n).length) (COMMA.data.toList++(Lib.itoa m++[41])):=r1.step
 have r3:Rest s (6+(Lib.itoa n).length+2) (Lib.itoa m++[41]):=r2.step
 have n2:=r3.num (k7 rfl) hm
 have r4:Rest s (6+(Lib.itoa n).length+2+(Lib.itoa m).length) [41]:=r3.step
 have hz:=r4.size
 have s0:stB s 0 QUO=false:=r0.no (w:=QUO) (c:=34) (r:=[]) rfl (by decide)
 have s1:stB s 0 LBR=false:=r0.no (w:=LBR) (c:=91) (r:=[]) rfl (by decide)
 have s2:stB s 0 RNG=true:=r0.yes
 have sE:stB s 0 ERR=false:=r0.no (w:=ERR) (c:=101) rfl (by decide)
 have sC:stB s ((6+(Lib.itoa n).length:Nat):Int) COMMA=true:=r2.yes
 have sP:stB s ((6+(Lib.itoa n).length+2+(Lib.itoa m).length:Nat):Int) RPA=true:=Rest.yes (w:=RPA) (q:=[]) r4
 have i1:intP s 6=(n,((6+(Lib.itoa n).length:Nat):Int)):=n1.1
 have e1:(((6+(Lib.itoa n).length:Nat):Int))+2=((6+(Lib.itoa n).length+2:Nat):Int):=by omega
 have e2:(((6+(Lib.itoa n).length+2+(Lib.itoa m).length:Nat):Int))+1=(s.size:Int):=by rw [hz];simp
 refine ⟨?_,?_⟩
 · show parP _ s 0=_
   rw [jbV (y:=6) rfl s0 s1 s2]
   rw [wX (y:=((6+(Lib.itoa n).length+2:Nat):Int)) (by rw [i1];exact e1.symm) (by rw [i1];exact pY _) (by rw [i1];exact notT sC) (by rw [n2.1];exact pY _) (by rw [n2.1];exact notT sP),i1,n2.1]
   show (vStr n m,_)=_
   rw [e2]
 · have j1:bm s 6 true=(vNum n,((6+(Lib.itoa n).length:Nat):Int),true):=n1.2 true
   have ak:andK s ((6+(Lib.itoa n).length:Nat):Int) true COMMA=((6+(Lib.itoa n).length+2:Nat):Int):=by
    rw [← iZ rfl,fD sC];exact e1
   have ab:andB s ((6+(Lib.itoa n).length:Nat):Int) true COMMA=true:=by rw [← i7 rfl];exact sC
   have bk:andK s ((6+(Lib.itoa n).length+2+(Lib.itoa m).length:Nat):Int) true RPA=(s.size:Int):=by
    rw [← iZ rfl,fD sP];exact e2
   have bb:andB s ((6+(Lib.itoa n).length+2+(Lib.itoa m).length:Nat):Int) true RPA=true:=by rw [← i7 rfl];exact sP
   unfold bS
   rw [if_neg (by rw [sE];decide),if_pos s2,j1]
   show (vStr (iAt (vNum n) 1) (iAt (bm s (andK s ((6+(Lib.itoa n).length:Nat):Int) true COMMA) (andB s ((6+(Lib.itoa n).length:Nat):Int) true COMMA)).1 1),_,_)=_
   rw [ak,ab,n2.2 true]
   show (vStr n m,andK s ((6+(Lib.itoa n).length+2+(Lib.itoa m).length:Nat):Int) true RPA,andB s ((6+(Lib.itoa n).length+2+(Lib.itoa m).length:Nat):Int) true RPA)=_
   rw [bk,bb]
theorem nH {n:Int} (h1:1≤n) (h8:n≤8):errC (errB n)=n:=by
 have:∀ k:Nat,k < 9→1≤k→errC (errB (k:Int))=(k:Int):=by decide +kernel
 have:=this n.toNat (by omega) (by omega)
 rwa [show ((n.toNat:Nat):Int)=n by omega] at this
theorem jct (n:Int):fB (vErr n)=ERR.data.toList++(errB n).data.toList:=by
 show (fmtV (vErr n)).data.toList=_
 rw [← fm6 (n:=n) (st:=0) (tx:=ES) (l4:=[]) (l5:=[]) (l6:=[])]
 simp
theorem yA {n:Int} (h1:1≤n) (h8:n≤8) (hs:s.data.toList=fB (vErr n)) (f:Nat):parF s (f+1) 0=(vErr n,(s.size:Int))∧bS s=(vErr n,(s.size:Int),true):=by
 rw [jct] at hs
 have r0:Rest s 0 (ERR.data.toList++(errB n).data.toList):=Rest.whole hs
 have r1:Rest s 6 ((errB n).data.toList):=r0.step
 have s0:stB s 0 QUO=false:=r0.no (w:=QUO) (c:=34) (r:=[]) rfl (by decide)
 have s1:stB s 0 LBR=false:=r0.no (w:=LBR) (c:=91) (r:=[]) rfl (by decide)
 have s2:stB s 0 RNG=false:=r0.no (w:=RNG) (c:=114) rfl (by decide)
 have s3:stB s 0 TBO=false:=r0.no (w:=TBO) (c:=116) rfl (by decide)
 have sE:stB s 0 ERR=true:=r0.yes
 have ht:s.extract 6 s.size=errB n:=by
  apply jes
  apply jep
  rw [jv,r1.2]
 refine ⟨?_,?_⟩
 · show parP _ s 0=_
   rw [jbT (y:=6) rfl s0 s1 s2 s3 sE,show s.extract (6:Int).toNat s.size=s.extract 6 s.size from rfl,ht,nH h1 h8]
 · unfold bS
   rw [if_pos sE,ht,ui,nH h1 h8]
end
section
variable {s:ByteArray}
def ck (v:List D):List D:=vLst ((lst v).map fun y=>vNum (iAt y 1))
theorem oA (v:List D):aI (ck v)=aI v:=by
 show [D.l (((lst v).map fun y=>vNum (iAt y 1)).map fun y=>[.i (iAt y 1)]),.l []]=_
 rw [jev]
 rfl
theorem vX (v:List D):fB (ck v)=(rowT (aI v)).data.toList:=by
 unfold ck rowT
 rw [km,jy]
 show 91 :: (Lib.join (((lst v).map fun y=>vNum (iAt y 1)).map fB) [44,32]++[93])=91 :: (Lib.join ((tp ((lst v).map fun y=>[D.i (iAt y 1)])).map (·.data.toList)) [44,32]++[93])
 congr 3
 unfold tp
 rw [jev,jev,jev]
 refine jeB fun y _=>?_
 show fB (vNum (iAt y 1))=(aB (iAt y 1)).data.toList
 rw [lq,bh]
theorem iG {n:Nat} {v:List D} (hn:n≤4) (h:rowOk n (aI v)=true) (m:Nat):GS s (m+2) (ck v)∧GI s (m+1) (ck v)∧Hd (ck v):=by
 obtain ⟨h1,_,h3⟩:=lY h
 have h1:((lst v).map fun y=>[D.i (iAt y 1)]).length=n:=h1
 rw [jdi] at h1
 have hr:∀ y ∈ lst v,inR (iAt y 1) (-1000000000) 1000000000=true:=by
  intro y hy
  obtain ⟨i,hi,rfl⟩:=dK [] hy
  have:=h3 i (by show i < ((lst v).map fun y=>[D.i (iAt y 1)]).length;rw [jdi];exact hi)
  have e:rAt ((lst v).map fun y=>[D.i (iAt y 1)]) i=[D.i (iAt ((lst v).getD i []) 1)]:=by
   simp [rAt,jdb,jc5 hi]
  have this:inR (iAt (rAt ((lst v).map fun y=>[D.i (iAt y 1)]) i) 0) (-1000000000) 1000000000=true:=this
  rw [e] at this
  exact this
 have hl:((lst v).map fun y=>vNum (iAt y 1)).length≤64:=by rw [jdi];omega
 have g1:∀ x ∈ (lst v).map fun y=>vNum (iAt y 1),GS s (m+1) x:=by
  intro x hx
  obtain ⟨y,hy,rfl⟩:=jdO.1 hx
  exact tm (hr y hy) m
 have g2:∀ x ∈ (lst v).map fun y=>vNum (iAt y 1),GI s m x:=by
  intro x hx
  obtain ⟨y,hy,rfl⟩:=jdO.1 hx
  exact tn (hr y hy) m
 have g3:∀ x ∈ (lst v).map fun y=>vNum (iAt y 1),Hd x:=by
  intro x hx
  obtain ⟨y,hy,rfl⟩:=jdO.1 hx
  exact tY _
 exact ⟨tC hl g1 g3,tD g2 g3,⟨91,_,km _,by decide⟩⟩
theorem tv {t:ByteArray} (h:bZ t=true):∀ b ∈ t.data.toList,b ≠ 32∧((b.toNat:Int) != 34)=true:=by
 intro b hb
 unfold bZ iQ at h
 rw [jdj,jdj,allB_iff] at h
 obtain ⟨i,hi,rfl⟩:=dK 0 hb
 have hl:t.data.toList.length=t.size:=jdn
 have:=h.1.1 i (by omega)
 have e:bAt t i=((t.data.toList.getD i 0).toNat:Int):=by
  show ((t.data.getD i 0).toNat:Int)=_
  rw [jea,jdb,jd9]
 unfold cJ letB digB at this
 rw [e] at this
 simp only [jey,jdj,decide_eq_true_eq] at this
 refine ⟨fun h32=>?_,?_⟩
 · rw [h32] at this
   have e2:((32:UInt8).toNat:Int)=32:=rfl
   omega
 · rw [bne_iff_ne]
   omega
theorem lk {P:UInt8→Prop} (hP:P 32):∀ (ws:List (List UInt8)),(∀ w ∈ ws, ∀ b ∈ w,P b)→∀ b ∈ Lib.join ws [32],P b
 | [],_,b,hb=>by rw [Lib.join_nil] at hb;exact absurd hb (jda)
 | [w],h,b,hb=>by rw [Lib.join_one] at hb;exact h w (jdo _) b hb
 | w :: x :: r,h,b,hb=>by
   rw [jq] at hb
   rcases jdG.1 hb with h1|h1
   · exact h w (jdB ..) b h1
   · rcases jdG.1 h1 with h2|h2
     · rw [jdX.1 h2];exact hP
     · exact lk hP (x :: r) (fun w hw=>h w (jdP _ hw)) b h2
theorem kP {c:List ByteArray} (hne:c ≠ []) (h:∀ t ∈ c, ∀ b ∈ t.data.toList,b ≠ 32):ah (bg c ⟨#[32]⟩)=c:=by
 unfold ah bg
 show (aG (Lib.join (c.map (·.data.toList)) [32])).map _=c
 rw [mM (by simpa using hne) (by
  intro w hw
  obtain ⟨t,ht,rfl⟩:=jdO.1 hw
  exact h t ht),jev]
 conv=>rhs;rw [← List.map_id c]
 refine jeB fun t _=>?_
 apply jes
 apply jep
 simp
theorem jcr (c:List ByteArray) (l:List (List D)):fB (vTbl (ac c) (l.map aI))=TBO.data.toList++(34 :: ((bg c ⟨#[32]⟩).data.toList++34 :: (COMMA.data.toList++(91 :: (Lib.join ((l.map ck).map fB) [44,32]++93 :: [41]))))):=by
 show (fmtV (vTbl (ac c) (l.map aI))).data.toList=_
 rw [← fm5 (n:=0) (st:=0) (tx:=ES) (l4:=[]) (l5:=ac c) (l6:=l.map aI),aS]
 have e:(iq (l.map aI)).data.toList=91 :: (Lib.join ((l.map ck).map fB) [44,32]++[93]):=by
  unfold iq
  rw [jy,jev,jev,jev]
  congr 3
  refine jeB fun v _=>?_
  exact (vX v).symm
 simp only [ByteArray.data_append,Array.toList_append,e]
 simp
theorem yy {c:List ByteArray} {l:List (List D)} (ho:okV (vTbl (ac c) (l.map aI))=true) (hs:s.data.toList=fB (vTbl (ac c) (l.map aI))) (f:Nat) :
 parF s (f+3) 0=(vTbl (ac c) (l.map aI),(s.size:Int))∧bS s=(vTbl (ac c) (l.map aI),(s.size:Int),true):=by
 obtain ⟨tc,t12,tr⟩:=lD (okV_tbl ho rfl).1
 have tc:dw (ac c)=true:=tc
 have t12:(l.map aI).length≤12:=t12
 have tr:∀ i,i < (l.map aI).length→rowOk (ac c).length (rAt (l.map aI) i)=true:=tr
 obtain ⟨c1,c4,cn,_⟩:=ku tc
 rw [aH] at c1 c4 cn
 rw [jdi] at t12
 have cne:c ≠ []:=fun e=>by rw [e] at c1;exact absurd c1 (by decide)
 have cname:∀ t ∈ c,bZ t=true:=by
  intro t ht
  obtain ⟨i,hi,he⟩:=jeM.1 ht
  have:=cn i hi
  have e:tAt (ac c) i=t:=by
   simp [tAt,ac,jdb,jc5 hi,D.str,he]
  rwa [e] at this
 have hw:ah (bg c ⟨#[32]⟩)=c:=kP cne fun t ht b hb=>(tv (cname t ht) b hb).1
 have hq:∀ b ∈ (bg c ⟨#[32]⟩).data.toList,((b.toNat:Int) != 34)=true:=by
  have:(bg c ⟨#[32]⟩).data.toList=Lib.join (c.map (·.data.toList)) [32]:=by unfold bg;simp
  rw [this]
  refine lk (P:=fun b=>((b.toNat:Int) != 34)=true) rfl _ fun w hw b hb=>?_
  obtain ⟨t,ht,rfl⟩:=jdO.1 hw
  exact (tv (cname t ht) b hb).2
 have hrow:∀ v ∈ l,rowOk c.length (aI v)=true:=by
  intro v hv
  obtain ⟨i,hi,rfl⟩:=dK [] hv
  have:=tr i (by rw [jdi];exact hi)
  have e:rAt (l.map aI) i=aI (l.getD i []):=by
   simp [rAt,jdb,jc5 hi]
  rwa [e,aH] at this
 have gS:∀ x ∈ l.map ck,GS s (f+2) x:=by
  intro x hx
  obtain ⟨v,hv,rfl⟩:=jdO.1 hx
  exact (iG c4 (hrow v hv) f).1
 have gI:∀ x ∈ l.map ck,GI s 1 x:=by
  intro x hx
  obtain ⟨v,hv,rfl⟩:=jdO.1 hx
  exact (iG c4 (hrow v hv) 0).2.1
 have gH:∀ x ∈ l.map ck,Hd x:=by
  intro x hx
  obtain ⟨v,hv,rfl⟩:=jdO.1 hx
  exact (iG (s:=s) c4 (hrow v hv) 0).2.2
 have hmap:(l.map ck).map aI=l.map aI:=by
  rw [jev]
  exact jeB fun v _=>oA v
 rw [jcr] at hs
 generalize ht:bg c ⟨#[32]⟩=t at *
 generalize hJ:Lib.join ((l.map ck).map fB) [44,32]=J at *
 have r0:Rest s 0 (TBO.data.toList++(34 :: (t.data.toList++34 :: (COMMA.data.toList++(91 :: (J++93 :: [41])))))):=Rest.whole hs
 have r1:Rest s 6 (34 :: (t.data.toList++34 :: (COMMA.data.toList++(91 :: (J++93 :: [41]))))):=r0.step
 have q1:=r1.quo hq
 have hl:t.data.toList.length=t.size:=jdn
 have r2:Rest s (6+2+t.size) (COMMA.data.toList++(91 :: (J++93 :: [41]))):=by
  have a:Rest s 7 (t.data.toList++34 :: (COMMA.data.toList++(91 :: (J++93 :: [41])))):=Rest.step (w:=[34]) r1
  have b:Rest s (7+t.data.toList.length) (34 :: (COMMA.data.toList++(91 :: (J++93 :: [41])))):=a.step
  have d:Rest s (7+t.data.toList.length+1) (COMMA.data.toList++(91 :: (J++93 :: [41]))):=Rest.step (w:=[34]) b
  rw [hl] at d
  rwa [show 6+2+t.size=7+t.size+1 by omega]
 have r3:Rest s (6+2+t.size+2) (91 :: (J++93 :: [41])):=r2.step
 have r4:Rest s (6+2+t.size+3) (J++93 :: [41]):=Rest.step (w:=[91]) r3
 have r5:Rest s (6+2+t.size+3+J.length+1) [41]:=by
  have a:Rest s (6+2+t.size+3+J.length) (93 :: [41]):=r4.step
  exact Rest.step (w:=[93]) a
 have hz:=r5.size
 have s0:stB s 0 QUO=false:=r0.no (w:=QUO) (c:=34) (r:=[]) rfl (by decide)
 have s1:stB s 0 LBR=false:=r0.no (w:=LBR) (c:=91) (r:=[]) rfl (by decide)
 have s2:stB s 0 RNG=false:=r0.no (w:=RNG) (c:=114) rfl (by decide)
 have sE:stB s 0 ERR=false:=r0.no (w:=ERR) (c:=101) rfl (by decide)
 have s3:stB s 0 TBO=true:=r0.yes
 have sL:stB s ((6+2+t.size:Nat):Int) CLB=true:=Rest.yes (w:=CLB) (q:=J++93 :: [41]) r2
 have sC:stB s ((6+2+t.size:Nat):Int) COMMA=true:=r2.yes
 have sP:stB s ((6+2+t.size+3+J.length+1:Nat):Int) RPA=true:=Rest.yes (w:=RPA) (q:=[]) r5
 have q2:quoP s 6=(t,((6+2+t.size:Nat):Int)):=q1.2
 have e1:(((6+2+t.size:Nat):Int))+3=((6+2+t.size+3:Nat):Int):=by omega
 have e2:(((6+2+t.size+3+J.length+1:Nat):Int))+1=(s.size:Int):=by rw [hz];simp
 have lS:itmP (parF s (f+2)) s ((6+2+t.size+3:Nat):Int)=(l.map ck,((6+2+t.size+3+J.length+1:Nat):Int)):=by
  have:=xI (n:=f+2) (l:=l.map ck) (by rw [jdi];omega) gS gH (k:=6+2+t.size+3) (q:=[41]) (by rw [hJ];exact r4)
  rw [hJ] at this
  exact this
 have lI:valI s 2 ((6+2+t.size+2:Nat):Int) true=(vLst (l.map ck),((6+2+t.size+3+J.length+1:Nat):Int),true):=by
  have:=xJ (d:=1) (l:=l.map ck) gI gH (k:=6+2+t.size+2) (q:=[41]) (by rw [hJ];exact r3) (by
   rw [jdi]
   omega)
  rw [hJ] at this
  rw [this]
  congr 2
  omega
 refine ⟨?_,?_⟩
 · show parP (itmP (parF s (f+2)) s) s 0=_
   rw [jbU (y:=6) rfl s0 s1 s2 s3]
   rw [jaX (y:=((6+2+t.size+3:Nat):Int)) (by rw [q2];exact e1.symm) (by rw [q2];exact pY _) (by rw [q2];exact notT sL) (by rw [lS];exact pY _) (by rw [lS];exact notT sP),lS,q2]
   show (vTbl (ac (ah t)) ((l.map ck).map aI),_)=_
   rw [hw,hmap,e2]
 · have v0:valI s 0 6 true=(vTxt t,((6+2+t.size:Nat):Int),true):=by
    rw [vd (k:=6) q1.1 (by rw [q2];show ¬ ((6+2+t.size:Nat):Int) < 0;omega) 0,q2]
   have ak:andK s ((6+2+t.size:Nat):Int) true COMMA=((6+2+t.size+2:Nat):Int):=by
    rw [← iZ rfl,fD sC]
    show (((6+2+t.size:Nat):Int))+2=_
    omega
   have ab:andB s ((6+2+t.size:Nat):Int) true COMMA=true:=by rw [← i7 rfl];exact sC
   have bk:andK s ((6+2+t.size+3+J.length+1:Nat):Int) true RPA=(s.size:Int):=by
    rw [← iZ rfl,fD sP];exact e2
   have bb:andB s ((6+2+t.size+3+J.length+1:Nat):Int) true RPA=true:=by rw [← i7 rfl];exact sP
   have hW:=jc2 (num:=bm) (va:=fun s k b=>valI s 0 k b) (vb:=fun s k b=>valI s 2 k b) (vc:=fun s k b=>valI s 3 k b) (s:=s) (P:=6) rfl sE s2 s3
   rw [← ry,hW]
   have sq:seqR s ((fun s k b=>valI s 0 k b) s 6 true) ((fun s k b=>valI s 2 k b) s)=(vLst (l.map ck),((6+2+t.size+3+J.length+1:Nat):Int),true):=by
    show seqR s (valI s 0 6 true) (fun k b=>valI s 2 k b)=_
    rw [v0]
    show valI s 2 (andK s ((6+2+t.size:Nat):Int) true COMMA) (andB s ((6+2+t.size:Nat):Int) true COMMA)=_
    rw [ak,ab,lI]
   rw [sq]
   show (vTbl (ac (ah ((valI s 0 6 true).1.getD 3 default).str)) ((l.map ck).map aI),andK s ((6+2+t.size+3+J.length+1:Nat):Int) true RPA,andB s ((6+2+t.size+3+J.length+1:Nat):Int) true RPA)=_
   rw [bk,bb,hmap,v0]
   show (vTbl (ac (ah t)) _,_,_)=_
   rw [hw]
theorem lA {v:List D} (hc:Can v) (ho:okV v=true) (hs:s.data.toList=fB v) {n:Nat} (hn:5≤n):parF s n 0=(v,(s.size:Int))∧bS s=(v,(s.size:Int),true):=by
 obtain ⟨f,rfl⟩:∃ f,n=f+3:=⟨n - 3,by omega⟩
 cases hc with
 | nil=>exact absurd (okV_kind ho) (by decide)
 | num n=>exact rH (.num n) ho rfl hs hn
 | txt t=>exact rH (.txt t) ho rfl hs hn
 | lst l h=>exact rH (.lst l h) ho rfl hs hn
 | str n m=>exact yz (okV_str ho rfl).1 (okV_str ho rfl).2 hs (f+2)
 | tbl c l=>exact yy ho hs f
 | err n=>exact yA (okV_err ho rfl).1 (okV_err ho rfl).2 hs (f+2)
theorem s6 {v:List D} {e:Bool} {s:ByteArray} (h:(pvOf v e s).2=true):e=true∧okV v=true∧s.data.toList=fB v∧pvOf v e s=(v,true):=by
 unfold pvOf at h ⊢
 split at h
 · rename_i hc
   rw [if_pos hc]
   have ho:okV v=true:=by
    cases hv:okV v with
    | true=>rfl
    | false =>
      have:=hc.2.1
      rw [o7 hv,nil_toList] at this
      exact absurd this.symm hc.2.2
   have:=hc.2.1
   rw [cD ho,aW] at this
   exact ⟨hc.1,ho,by rw [← this],rfl⟩
 · cases h
theorem s7 {v:List D} {e:Bool} {s:ByteArray} (h:(pvOf v e s).2=false):pvOf v e s=(vNil,false):=by
 unfold pvOf at h ⊢
 split at h
 · cases h
 · rename_i hc;rw [if_neg hc]
theorem mc {v:List D} (ho:okV v=true) (hs:s.data.toList=fB v):pvOf v true s=(v,true):=by
 have e:fmtV v=s:=by
  apply jes
  apply jep
  exact hs.symm
 have hne:s.toList ≠ []:=by
  intro h
  rw [← nil_toList,aW] at h
  subst h
  have h0:fB v=[]:=hs.symm
  have h2:∃ b r,fB v=b :: r:=by
   rcases okV_kind ho with hk|hk|hk|hk|hk|hk
   all_goals
    show ∃ b r,(fmtV v).data.toList=b :: r
    rw [cq]
    unfold cA
   · rw [if_pos hk,bh];obtain ⟨b,r,h,_⟩:=e9 (iAt v 1);exact ⟨b,r,h⟩
   · rw [if_neg (by omega),if_pos hk];exact ⟨34,(v.getD 3 default).str.data.toList++[34],by simp⟩
   · rw [if_neg (by omega),if_neg (by omega),if_neg (by omega),if_neg (by omega),if_neg (by omega),jy];exact ⟨_,_,rfl⟩
   · rw [if_neg (by omega),if_neg (by omega),if_pos hk];simp
   · rw [if_neg (by omega),if_neg (by omega),if_neg (by omega),if_pos hk];simp
   · rw [if_neg (by omega),if_neg (by omega),if_neg (by omega),if_neg (by omega),if_pos hk];simp
  obtain ⟨b,r,h3⟩:=h2
  rw [h0] at h3
  cases h3
 unfold pvOf
 rw [if_pos ⟨rfl,by rw [cD ho,e],hne⟩]
theorem yZ {n:Nat} (hn:5≤n) (s:ByteArray):pvS n s=pvI s:=by
 cases hS:(pvS n s).2 with
 | true =>
   obtain ⟨_,ho,hs,he⟩:=s6 hS
   have:=(lA (mF n 0) ho hs hn).2
   unfold pvI
   rw [this]
   show pvS n s=pvOf (parF s n 0).1 (true && (s.size:Int) == (s.size:Int)) s
   rw [show (true && (s.size:Int) == (s.size:Int))=true by simp,mc ho hs]
   exact he
 | false =>
   have h1:=s7 hS
   cases hI:(pvI s).2 with
   | true =>
     obtain ⟨_,ho,hs,he⟩:=s6 hI
     have:=(lA uy ho hs hn).1
     have hc:pvS n s=pvOf (bS s).1 true s:=by
      unfold pvS
      rw [this]
      show pvOf (bS s).1 ((s.size:Int) == (s.size:Int)) s=_
      rw [beq_self_eq_true]
     rw [hc,mc ho hs] at hS
     cases hS
   | false =>
     have h2:=s7 hI
     exact h1.trans h2.symm
end
end Go.Proofs.YtdkofgjbbdbglaaGreatDoor.Ab
