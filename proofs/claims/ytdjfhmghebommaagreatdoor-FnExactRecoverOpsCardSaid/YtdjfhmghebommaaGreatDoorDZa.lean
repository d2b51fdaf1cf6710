/- A part. -/
import Derived.Test.YtdjfhmghebommaaGreatDoorDYv
namespace Go.Proofs.YtdjfhmghebommaaGreatDoor.Ab
open Go.RowKit
set_option linter.all false
section
def Rest (s:ByteArray) (k:Nat) (l:List UInt8):Prop:=k≤s.size∧s.data.toList.drop k=l
theorem Rest.step {s:ByteArray} {k:Nat} {w q:List UInt8} (h:Rest s k (w++q)):Rest s (k+w.length) q:=by
 obtain ⟨h1,h2⟩:=h
 have hl:(s.data.toList.drop k).length=s.size - k:=by rw [jct,jb5];rfl
 rw [h2,jbQ] at hl
 refine ⟨by omega,?_⟩
 rw [← List.drop_drop,h2]
 exact List.drop_left
theorem Rest.size {s:ByteArray} {k:Nat} {l:List UInt8} (h:Rest s k l):s.size=k+l.length:=by
 have hl:(s.data.toList.drop k).length=s.size - k:=by rw [jct,jb5];rfl
 rw [h.2] at hl
 have:=h.1
 omega
theorem Rest.st {s:ByteArray} {k:Nat} {l:List UInt8} (h:Rest s k l) (w:ByteArray):stB s (k:Int) w=w.data.toList.isPrefixOf l:=by
 rw [← sZ h.1,jx,h.2]
 rfl
theorem Rest.yes {s:ByteArray} {k:Nat} {w:ByteArray} {q:List UInt8} (h:Rest s k (w.data.toList++q)):stB s (k:Int) w=true:=by
 rw [h.st,List.isPrefixOf_iff_prefix]
 exact List.prefix_append _ _
theorem Rest.no {s:ByteArray} {k:Nat} {b:UInt8} {q:List UInt8} (h:Rest s k (b :: q)) {w:ByteArray} {c:UInt8} {r:List UInt8} (hw:w.data.toList=c :: r) (hn:c ≠ b):stB s (k:Int) w=false:=by
 rw [h.st,hw]
 show (c == b && _)=false
 rw [show (c == b)=false by simpa using hn]
 rfl
theorem Rest.ext {s:ByteArray} {k:Nat} {w q:List UInt8} (h:Rest s k (w++q)):s.extract k (k+w.length)=⟨w.toArray⟩:=by
 apply jda
 apply jc7
 rw [ext_list,List.drop_take,h.2,show k+w.length - k=w.length by omega]
 simp
theorem Rest.run {s:ByteArray} {k:Nat} {w q:List UInt8} (h:Rest s k (w++q)) {P:Int→Bool} (hw:∀ b ∈ w,P (b.toNat:Int)=true) (hq:∀ b r,q=b :: r→P (b.toNat:Int)=false):runB P s k=k+w.length:=by
 unfold runB
 rw [h.2,List.takeWhile_append_of_pos hw]
 have:(q.takeWhile fun b=>P (b.toNat:Int))=[]:=by
  cases q with
  | nil=>rfl
  | cons b r=>exact jdR (by rw [hq b r rfl];decide)
 rw [this,jdc]
def Sep (q:List UInt8):Prop:=∀ b r,q=b :: r→mdB (b.toNat:Int)=false
theorem lj {b:UInt8} {r:List UInt8} (h:mdB (b.toNat:Int)=false):Sep (b :: r):=by
 intro b' r' he
 obtain ⟨rfl,rfl⟩:=jdb he
 exact h
theorem sn:Sep []:=fun b r h=>by cases h
theorem wG {b:UInt8} (h:mdB (b.toNat:Int)=false):digB (b.toNat:Int)=false:=by
 unfold mdB at h
 rw [Bool.or_eq_false_iff] at h
 exact h.2
theorem mu {u:Nat}:∀ b ∈ Lib.decDigits u,digB (b.toNat:Int)=true:=by
 intro b hb
 have:=cW u b hb
 unfold digB
 rw [jb1,decide_eq_true_eq,decide_eq_true_eq]
 omega
theorem tA (n:Int):∀ b ∈ Lib.itoa n,mdB (b.toNat:Int)=true:=by
 intro b hb
 have hd:∀ u,b ∈ Lib.decDigits u→mdB (b.toNat:Int)=true:=fun u h=>by
  unfold mdB;rw [mu b h];simp
 unfold Lib.itoa at hb
 split at hb
 · rcases jbW.1 hb with h|h
   · rw [h];rfl
   · exact hd _ h
 · exact hd _ hb
theorem fa (n:Int):∃ b r,Lib.itoa n=b :: r∧mdB (b.toNat:Int)=true:=by
 have hm:=tA n
 cases h:Lib.itoa n with
 | nil =>
   have:=mg n
   have e:(aH n).size=(Lib.itoa n).length:=jcm
   rw [e,h] at this
   exact absurd rfl this
 | cons b r=>exact ⟨b,r,rfl,hm b (by rw [h];exact jcj ..)⟩
theorem uq {b c:UInt8} (h:mdB (b.toNat:Int)=true) (hc:mdB (c.toNat:Int)=false):c ≠ b:=fun e=>by rw [e,h] at hc;cases hc
theorem Rest.num {s:ByteArray} {k:Nat} {n:Int} {q:List UInt8} (h:Rest s k (Lib.itoa n++q)) (hq:Sep q) (hn:inR n (-1000000000) 1000000000=true) :
 intP s (k:Int)=(n,((k+(Lib.itoa n).length:Nat):Int))∧∀ b,aW s (k:Int) b=(vNum n,((k+(Lib.itoa n).length:Nat):Int),b):=by
 unfold inR at hn
 rw [jb1,decide_eq_true_eq,decide_eq_true_eq] at hn
 have hp:prs (-999999999999) 999999999999 (aH n)=(n,true):=eV (by omega) (by omega) rfl
 have e1:numE s k=k+(Lib.itoa n).length:=by
  unfold numE
  by_cases hneg:n < 0
  · have hi:Lib.itoa n=45 :: Lib.decDigits n.natAbs:=by unfold Lib.itoa;rw [if_pos hneg]
    rw [hi] at h
    have hs:=h.size
    have h45:bAt s k=45:=by
     have:=drop_at (s:=s) (k:=k) (by rw [hs,jbU,jb3];omega)
     rw [h.2,jbU] at this
     show ((s.data.getD k 0).toNat:Int)=45
     rw [← (jdb this).1];rfl
    have hsg:sgnK s k=k+1:=if_pos ⟨by rw [hs,jbU,jb3];omega,h45⟩
    have h2:Rest s (k+1) (Lib.decDigits n.natAbs++q):=Rest.step (w:=[45]) h
    rw [hsg,h2.run mu (fun b r e=>wG (hq b r e)),hi,jb3]
    omega
  · have hi:Lib.itoa n=Lib.decDigits n.toNat:=by unfold Lib.itoa;rw [if_neg hneg]
    rw [hi] at h
    have hsg:sgnK s k=k:=by
     refine if_neg fun ⟨h1,h2⟩=>?_
     have hd:=drop_at h1
     rw [h.2] at hd
     cases he:Lib.decDigits n.toNat with
     | nil=>exact fe _ he
     | cons b r =>
       rw [he,jbU] at hd
       have hb:=mu b (by rw [he];exact jcj ..)
       have:bAt s k=(b.toNat:Int):=by show ((s.data.getD k 0).toNat:Int)=_;rw [← (jdb hd).1]
       rw [this] at h2
       rw [h2] at hb
       cases hb
    rw [hsg,h.run mu (fun b r e=>wG (hq b r e)),hi]
 have e2:cL s (k:Int)=k+(Lib.itoa n).length:=h.run (P:=mdB) (tA n) hq
 have e3:s.extract k (k+(Lib.itoa n).length)=aH n:=h.ext
 refine ⟨?_,fun b=>?_⟩
 · have:prsN s ((k:Int).toNat)=(n,true):=by show prs _ _ (s.extract k (numE s k))=_;rw [e1,e3,hp]
   unfold intP
   rw [this]
   show (n,(numE s k:Int))=_
   rw [e1]
 · have:prsI s (k:Int)=(n,true):=by show prs _ _ (s.extract k (cL s (k:Int)))=_;rw [e2,e3,hp]
   unfold aW
   rw [this,e2]
   simp
theorem okTxt_at {t:ByteArray} (h:okTxt t=true):∀ b ∈ t.data.toList,((b.toNat:Int) != 34)=true:=by
 intro b hb
 unfold okTxt at h
 rw [jb1,allB_iff] at h
 obtain ⟨i,hi,rfl⟩:=dJ 0 hb
 have hl:t.data.toList.length=t.size:=jb5
 have:=h.1 i (by omega)
 unfold bf at this
 rw [jch,Bool.or_eq_false_iff,Bool.or_eq_false_iff] at this
 have h2:=this.2
 have e:bAt t i=((t.data.toList.getD i 0).toNat:Int):=by
  show ((t.data.getD i 0).toNat:Int)=_
  rw [jcS,jbT,jcR]
 rw [e] at h2
 rw [bne,h2];rfl
theorem Rest.quo {s:ByteArray} {k:Nat} {t:ByteArray} {q:List UInt8} (h:Rest s k (34 :: (t.data.toList++34 :: q))) (ht:∀ b ∈ t.data.toList,((b.toNat:Int) != 34)=true):stB s (k:Int) QUO=true∧quoP s (k:Int)=(t,((k+2+t.size:Nat):Int)):=by
 have hq:stB s (k:Int) QUO=true:=Rest.yes (w:=QUO) h
 have h2:Rest s (k+1) (t.data.toList++34 :: q):=Rest.step (w:=[34]) h
 have hl:t.data.toList.length=t.size:=jb5
 have e:quoE s (k:Int)=k+1+t.size:=by
  show runB _ s (k+1)=_
  rw [h2.run (P:=fun b=>b != 34) ht (fun b r e=>by obtain ⟨rfl,_⟩:=jdb e;rfl),hl]
 have hs:=h2.size
 rw [jbQ,jb3,hl] at hs
 have e3:s.extract (k+1) (k+1+t.size)=t:=by
  have:=h2.ext
  rw [hl] at this
  rw [this]
 refine ⟨hq,?_⟩
 unfold quoP
 rw [if_pos hq,if_neg (by omega),e]
 show (s.extract (k+1) (k+1+t.size),_)=_
 rw [e3]
 congr 1
 omega
abbrev fB (v:List D):List UInt8:=(fmtV v).data.toList
theorem jt (x y:List UInt8) (r:List (List UInt8)) (sep:List UInt8):Lib.join (x :: y :: r) sep=x++(sep++Lib.join (y :: r) sep):=by
 rw [Lib.join_cons,Lib.join_cons]
 simp [Lib.joinTail]
theorem jA (xs:List ByteArray):(brk xs).data.toList=91 :: (Lib.join (xs.map (·.data.toList)) [44,32]++[93]):=by
 unfold brk bg
 simp
theorem lw (n:Int):fB (vNum n)=Lib.itoa n:=by
 show (fmtV (vNum n)).data.toList=_
 rw [← fm1 (n:=n) (st:=0) (tx:=ES) (l4:=[]) (l5:=[]) (l6:=[]),bn]
theorem nD (t:ByteArray):fB (vTxt t)=34 :: (t.data.toList++[34]):=by
 show (fmtV (vTxt t)).data.toList=_
 rw [← fm2 (n:=0) (st:=0) (tx:=t) (l4:=[]) (l5:=[]) (l6:=[])]
 simp
theorem kv (l:List (List D)):fB (vLst l)=91 :: (Lib.join (l.map fB) [44,32]++[93]):=by
 show (fmtV (vLst l)).data.toList=_
 rw [← fm3 (n:=0) (st:=0) (tx:=ES) (l4:=l) (l5:=[]) (l6:=[]),jA,jdd]
 rfl
theorem me (v w:List D) (r:List (List D)):(Lib.join ((v :: w :: r).map fB) [44,32]).length=(fB v).length+2+(Lib.join ((w :: r).map fB) [44,32]).length:=by
 show (Lib.join (fB v :: fB w :: r.map fB) [44,32]).length=(fB v).length+2+(Lib.join (fB w :: r.map fB) [44,32]).length
 rw [jt,jbQ,jbQ]
 show (fB v).length+(2+_)=_
 omega
section
variable (s:ByteArray)
def GS (n:Nat) (v:List D):Prop:=∀ (k:Nat) (q:List UInt8),Rest s k (fB v++q)→Sep q→parF s n (k:Int)=(v,((k+(fB v).length:Nat):Int))
def GI (d:Nat) (v:List D):Prop:=∀ (k:Nat) (q:List UInt8),Rest s k (fB v++q)→Sep q→valI s d (k:Int) true=(v,((k+(fB v).length:Nat):Int),true)
end
def Hd (v:List D):Prop:=∃ b r,fB v=b :: r∧b ≠ 93
variable {s:ByteArray}
theorem tC {n:Nat}:∀ (l:List (List D)),l ≠ []→(∀ v ∈ l,GS s n v)→∀ (m k:Nat) (out:List (List D)) (q:List UInt8),l.length≤m→Rest s k (Lib.join (l.map fB) [44,32]++93 :: q) →
 bo (parF s n) s m (k:Int) out=(out++l,((k+(Lib.join (l.map fB) [44,32]).length+1:Nat):Int))
 | [],h,_,_,_,_,_,_,_=>absurd rfl h
 | [v],_,hg,m,k,out,q,hm,hr=>by
   obtain ⟨m,rfl⟩:∃ m',m=m' + 1:=⟨m - 1,by simp at hm;omega⟩
   rw [jdS,Lib.join_one] at hr ⊢
   have hp:=hg v (jb6 _) k (93 :: q) hr (lj rfl)
   have h2:Rest s (k+(fB v).length) (93 :: q):=hr.step
   have hb:stB s (((k+(fB v).length:Nat):Int)) RBR=true:=Rest.yes (w:=RBR) h2
   rw [jba (by rw [hp];exact decide_eq_false (by show ¬ ((k+(fB v).length:Nat):Int) < 0;omega)) (by rw [hp];exact hb),hp]
   rfl
 | v :: w :: r,_,hg,m,k,out,q,hm,hr=>by
   obtain ⟨m,rfl⟩:∃ m',m=m' + 1:=⟨m - 1,by simp at hm;omega⟩
   rw [jcV,jcV,jt,jcu,jcu] at hr
   have hp:=hg v (jcj ..) k _ hr (lj rfl)
   have h2:Rest s (k+(fB v).length) (44 :: (32 :: (Lib.join ((w :: r).map fB) [44,32]++93 :: q))):=hr.step
   have hb:stB s (((k+(fB v).length:Nat):Int)) RBR=false:=h2.no (w:=RBR) (c:=93) (r:=[]) rfl (by decide)
   have hc:stB s (((k+(fB v).length:Nat):Int)) COMMA=true:=Rest.yes (w:=COMMA) h2
   have h3:Rest s (k+(fB v).length+2) (Lib.join ((w :: r).map fB) [44,32]++93 :: q):=Rest.step (w:=[44,32]) h2
   have ih:=tC (n:=n) (w :: r) (by simp) (fun x hx=>hg x (jcx _ hx)) m (k+(fB v).length+2) (out++[v]) q (by simp at hm ⊢;omega) h3
   rw [ja9 (by rw [hp];exact decide_eq_false (by show ¬ ((k+(fB v).length:Nat):Int) < 0;omega)) (by rw [hp];exact hb) (by rw [hp];exact notT hc),hp]
   show bo (parF s n) s m ((((k+(fB v).length:Nat):Int))+2) (out++[v])=_
   rw [show (((k+(fB v).length:Nat):Int))+2=((k+(fB v).length+2:Nat):Int) by omega,ih,me,jcu]
   show (out++(v :: w :: r),_)=_
   congr 2
   omega
theorem tD {d:Nat}:∀ (l:List (List D)),l ≠ []→(∀ v ∈ l,GI s d v)→∀ (m k:Nat) (out:List (List D)) (q:List UInt8),l.length≤m→Rest s k (Lib.join (l.map fB) [44,32]++93 :: q) →
 bz (valI s d) s m (k:Int) true out=(out++l,((k+(Lib.join (l.map fB) [44,32]).length+1:Nat):Int),true)
 | [],h,_,_,_,_,_,_,_=>absurd rfl h
 | [v],_,hg,m,k,out,q,hm,hr=>by
   obtain ⟨m,rfl⟩:∃ m',m=m' + 1:=⟨m - 1,by simp at hm;omega⟩
   rw [jdS,Lib.join_one] at hr ⊢
   have hp:=hg v (jb6 _) k (93 :: q) hr (lj rfl)
   have h2:Rest s (k+(fB v).length) (93 :: q):=hr.step
   have hb:stB s (((k+(fB v).length:Nat):Int)) RBR=true:=Rest.yes (w:=RBR) h2
   rw [yx (by rw [hp];exact hb),hp]
   rfl
 | v :: w :: r,_,hg,m,k,out,q,hm,hr=>by
   obtain ⟨m,rfl⟩:∃ m',m=m' + 1:=⟨m - 1,by simp at hm;omega⟩
   rw [jcV,jcV,jt,jcu,jcu] at hr
   have hp:=hg v (jcj ..) k _ hr (lj rfl)
   have h2:Rest s (k+(fB v).length) (44 :: (32 :: (Lib.join ((w :: r).map fB) [44,32]++93 :: q))):=hr.step
   have hb:stB s (((k+(fB v).length:Nat):Int)) RBR=false:=h2.no (w:=RBR) (c:=93) (r:=[]) rfl (by decide)
   have hc:stB s (((k+(fB v).length:Nat):Int)) COMMA=true:=Rest.yes (w:=COMMA) h2
   have h3:Rest s (k+(fB v).length+2) (Lib.join ((w :: r).map fB) [44,32]++93 :: q):=Rest.step (w:=[44,32]) h2
   have ih:=tD (d:=d) (w :: r) (by simp) (fun x hx=>hg x (jcx _ hx)) m (k+(fB v).length+2) (out++[v]) q (by simp at hm ⊢;omega) h3
   have ek:andK s ((k+(fB v).length:Nat):Int) true COMMA=((k+(fB v).length+2:Nat):Int):=by
    rw [← ie rfl,dq hc]
    show (((k+(fB v).length:Nat):Int))+2=_
    omega
   have eb:andB s ((k+(fB v).length:Nat):Int) true COMMA=true:=by rw [← ig rfl];exact hc
   rw [yw (by rw [hp];exact hb),hp]
   show bz (valI s d) s m (andK s ((k+(fB v).length:Nat):Int) true COMMA) (andB s ((k+(fB v).length:Nat):Int) true COMMA) (out++[v])=_
   rw [ek,eb,ih,me,jcu]
   show (out++(v :: w :: r),_,true)=_
   congr 2
   congr 1
   omega
theorem tL {l:List (List D)} (hne:l ≠ []) (hh:∀ v ∈ l,Hd v) {q:List UInt8} {k:Nat} (h:Rest s k (Lib.join (l.map fB) [44,32]++q)):stB s (k:Int) RBR=false:=by
 cases l with
 | nil=>exact absurd rfl hne
 | cons v r =>
   obtain ⟨b,t,hb,hn⟩:=hh v (jcj ..)
   rw [jcV,Lib.join_cons,hb,jbU,jbU] at h
   exact h.no (w:=RBR) (c:=93) (r:=[]) rfl (fun e=>hn e.symm)
theorem wK {n:Nat} {l:List (List D)} (hl:l.length≤64) (hg:∀ v ∈ l,GS s n v) (hh:∀ v ∈ l,Hd v) {k:Nat} {q:List UInt8} (h:Rest s k (Lib.join (l.map fB) [44,32]++93 :: q)) :
 itmP (parF s n) s (k:Int)=(l,((k+(Lib.join (l.map fB) [44,32]).length+1:Nat):Int)):=by
 by_cases hne:l=[]
 · subst hne
   have hb:stB s (k:Int) RBR=true:=Rest.yes (w:=RBR) h
   rw [ja7 hb]
   rfl
 · rw [ja6 (tL hne hh h),tC l hne hg 64 k [] q hl h]
   rfl
theorem wL {d:Nat} {l:List (List D)} (hg:∀ v ∈ l,GI s d v) (hh:∀ v ∈ l,Hd v) {k:Nat} {q:List UInt8} (h:Rest s k (91 :: (Lib.join (l.map fB) [44,32]++93 :: q))) (hl:l.length≤s.size+3) :
 valI s (d+1) (k:Int) true=(vLst l,((k+(Lib.join (l.map fB) [44,32]).length+2:Nat):Int),true):=by
 have hq:stB s (k:Int) QUO=false:=h.no (w:=QUO) (c:=34) (r:=[]) rfl (by decide)
 have hb:stB s (k:Int) LBR=true:=Rest.yes (w:=LBR) h
 have h2:Rest s (k+1) (Lib.join (l.map fB) [44,32]++93 :: q):=Rest.step (w:=[91]) h
 have e1:((k:Int)+1)=((k+1:Nat):Int):=by omega
 by_cases hne:l=[]
 · subst hne
   have hr:stB s ((k:Int)+1) RBR=true:=by rw [e1];exact Rest.yes (w:=RBR) h2
   rw [vI_e hq hb hr]
   rfl
 · have hr:stB s ((k:Int)+1) RBR=false:=by rw [e1];exact tL hne hh h2
   rw [vI_l hq hb hr,e1,tD l hne hg (s.size+3) (k+1) [] q hl h2]
   show (vLst ([]++l),_,_)=_
   rw [jbX]
   congr 2
   omega
end
section
inductive Can:List D→Prop
 | nil:Can vNil
 | num (n:Int):Can (vNum n)
 | txt (t:ByteArray):Can (vTxt t)
 | lst (l:List (List D)):(∀ r ∈ l,Can r)→Can (vLst l)
 | str (n m:Int):Can (vStr n m)
 | tbl (c:List ByteArray) (l:List (List D)):Can (vTbl (ae c) (l.map aD))
 | err (n:Int):Can (vErr n)
theorem tM (n:Int):Hd (vNum n):=by
 obtain ⟨b,r,h,hm⟩:=fa n
 exact ⟨b,r,by rw [lw,h],fun e=>by rw [e] at hm;cases hm⟩
variable {s:ByteArray}
theorem iW {n:Int} {k:Nat} {q:List UInt8} (h:Rest s k (Lib.itoa n++q)) {w:ByteArray} {c:UInt8} {r:List UInt8} (hw:w.data.toList=c :: r) (hc:mdB (c.toNat:Int)=false):stB s (k:Int) w=false:=by
 obtain ⟨b,t,hb,hm⟩:=fa n
 rw [hb,jbU] at h
 exact h.no hw (uq hm hc)
theorem ta {n:Int} (hn:inR n (-1000000000) 1000000000=true) (m:Nat):GS s (m+1) (vNum n):=by
 intro k q h hq
 rw [lw] at h ⊢
 have hN:=(h.num hq hn).1
 show parP _ s (k:Int)=_
 rw [jaJ (iW h (w:=QUO) rfl rfl) (iW h (w:=LBR) rfl rfl) (iW h (w:=RNG) rfl rfl) (iW h (w:=TBO) rfl rfl) (iW h (w:=ERR) rfl rfl),hN]
theorem tb {n:Int} (hn:inR n (-1000000000) 1000000000=true):∀ d,GI s d (vNum n)
 | 0=>by
   intro k q h hq
   rw [lw] at h ⊢
   rw [rA (iW h (w:=QUO) rfl rfl),(h.num hq hn).2 true]
 | d+1=>by
   intro k q h hq
   rw [lw] at h ⊢
   rw [vI_n (iW h (w:=QUO) rfl rfl) (iW h (w:=LBR) rfl rfl),(h.num hq hn).2 true]
theorem ji {t:ByteArray} (ht:∀ b ∈ t.data.toList,((b.toNat:Int) != 34)=true) (m:Nat):GS s (m+1) (vTxt t)∧GI s m (vTxt t):=by
 have hl:(fB (vTxt t)).length=t.size+2:=by
  rw [nD,jb3,jbQ,jb5];rfl
 have key:∀ (k:Nat) (q:List UInt8),Rest s k (fB (vTxt t)++q)→stB s (k:Int) QUO=true∧quoP s (k:Int)=(t,((k+(fB (vTxt t)).length:Nat):Int)):=by
  intro k q h
  have h' : Rest s k (34 :: (t.data.toList++34 :: q)):=by
   rw [nD,jbU,jcu] at h
   exact h
  have:=h'.quo ht
  refine ⟨this.1,?_⟩
  rw [this.2,hl]
  congr 2
  omega
 refine ⟨fun k q h hq=>?_,fun k q h hq=>?_⟩
 · obtain ⟨h1,h2⟩:=key k q h
   show parP _ s (k:Int)=_
   rw [jaO h1,h2]
 · obtain ⟨h1,h2⟩:=key k q h
   rw [qv h1 (by rw [h2];show ¬ ((k+(fB (vTxt t)).length:Nat):Int) < 0;omega) m,h2]
theorem oO (l:List (List D)):(fB (vLst l)).length=(Lib.join (l.map fB) [44,32]).length+2:=by
 rw [kv,jb3,jbQ];rfl
theorem pY {l:List (List D)} {k:Nat} {q:List UInt8} (h:Rest s k (fB (vLst l)++q)):Rest s k (91 :: (Lib.join (l.map fB) [44,32]++93 :: q)):=by
 rw [kv,jbU,jcu] at h
 exact h
theorem tn {n:Nat} {l:List (List D)} (hl:l.length≤64) (hg:∀ v ∈ l,GS s n v) (hh:∀ v ∈ l,Hd v):GS s (n+1) (vLst l):=by
 intro k q h hq
 have h:=pY h
 have h2:Rest s (k+1) (Lib.join (l.map fB) [44,32]++93 :: q):=Rest.step (w:=[91]) h
 show parP (itmP (parF s n) s) s (k:Int)=_
 rw [jaN (y:=((k+1:Nat):Int)) (by omega) (h.no (w:=QUO) (c:=34) (r:=[]) rfl (by decide)) (Rest.yes (w:=LBR) h),wK hl hg hh h2,oO]
 show (vLst l,_)=_
 congr 2
 omega
theorem tp {d:Nat} {l:List (List D)} (hg:∀ v ∈ l,GI s d v) (hh:∀ v ∈ l,Hd v):GI s (d+1) (vLst l):=by
 intro k q h hq
 have hs:=h.size
 have hl:l.length≤(Lib.join (l.map fB) [44,32]).length+1:=by
  have:∀ l:List (List D),l.length≤(Lib.join (l.map fB) [44,32]).length+1:=by
   intro l
   induction l with
   | nil=>exact jbP _
   | cons v r ih =>
     cases r with
     | nil=>exact Nat.le_add_left _ _
     | cons w r=>rw [me,jb3];omega
  exact this l
 rw [jbQ,oO] at hs
 rw [wL hg hh (pY h) (by omega),oO]
 congr 2
theorem ub:∀ (m:Nat) (v:List D),Can v→okV v=true→elK v=true→depV v≤(m:Int)+1→GS s (m+1) v∧GI s (m+1) v∧Hd v:=by
 intro m
 induction m with
 | zero =>
   intro v hc ho hk hd
   cases hc with
   | nil=>cases hk
   | num n =>
     have hn:inR n (-1000000000) 1000000000=true:=okV_num ho rfl
     exact ⟨ta hn 0,tb hn 1,tM n⟩
   | txt t =>
     have ht:=okTxt_at (okV_txt ho rfl).1
     exact ⟨(ji ht 0).1,(ji ht 1).2,⟨34,_,nD t,by decide⟩⟩
   | lst l hl =>
     have hz:l=[]:=by
      refine jcl.1 ?_
      refine Classical.byContradiction fun hne=>?_
      have h1:=ms (rAt (lst (vLst l)) 0)
      have h2:=ko (F:=fun i=>depV (rAt (lst (vLst l)) i)) (n:=(lst (vLst l)).length) (i:=0) (by show 0 < l.length;omega)
      rw [dF] at hd
      omega
     subst hz
     exact ⟨tn (by decide) (fun v h=>absurd h (jbS)) (fun v h=>absurd h (jbS)),tp (fun v h=>absurd h (jbS)) (fun v h=>absurd h (jbS)),⟨91,_,kv _,by decide⟩⟩
   | str n m=>cases hk
   | tbl c l=>cases hk
   | err n=>cases hk
 | succ m ih =>
   intro v hc ho hk hd
   cases hc with
   | nil=>cases hk
   | num n =>
     have hn:inR n (-1000000000) 1000000000=true:=okV_num ho rfl
     exact ⟨ta hn _,tb hn _,tM n⟩
   | txt t =>
     have ht:=okTxt_at (okV_txt ho rfl).1
     exact ⟨(ji ht _).1,(ji ht _).2,⟨34,_,nD t,by decide⟩⟩
   | lst l hl =>
     obtain ⟨h1,h2,_⟩:=d9 (okV_list ho rfl).1
     have hel:∀ r ∈ l,GS s (m+1) r∧GI s (m+1) r∧Hd r:=by
      intro r hr
      obtain ⟨i,hi,rfl⟩:=dJ [] hr
      refine ih _ (hl _ hr) (h1 i hi).2 (h1 i hi).1 ?_
      have h3:=ko (F:=fun i=>depV (rAt (lst (vLst l)) i)) (n:=(lst (vLst l)).length) (i:=i) hi
      rw [dF] at hd
      have:depV (rAt (lst (vLst l)) i)≤(m:Int)+1:=by push_cast at hd;omega
      exact this
     exact ⟨tn (jbV h2 (by decide)) (fun v h=>(hel v h).1) (fun v h=>(hel v h).2.2),tp (fun v h=>(hel v h).2.1) (fun v h=>(hel v h).2.2),⟨91,_,kv _,by decide⟩⟩
   | str n m=>cases hk
   | tbl c l=>cases hk
   | err n=>cases hk
theorem nQ {par:Int→List D × Int} (h:∀ k,Can (par k).1):∀ (m:Nat) (k:Int) (out:List (List D)),(∀ r ∈ out,Can r)→∀ r ∈ (bo par s m k out).1,Can r
 | 0,_,_,_,r,hr=>absurd hr (jbS)
 | m+1,k,out,ho,r,hr=>by
   have ho' : ∀ r ∈ out++[(par k).1],Can r:=by
    intro r hr
    rcases jco.1 hr with h2|h2
    · exact ho r h2
    · rw [jcF.1 h2];exact h k
   unfold bo at hr
   split at hr
   · exact absurd hr (jbS)
   split at hr
   · exact ho' r hr
   split at hr
   · exact absurd hr (jbS)
   · exact nQ h m _ _ ho' r hr
theorem mA:∀ (n:Nat) (k:Int),Can (parF s n k).1
 | 0,_=>.nil
 | n+1,k=>by
   have itm:∀ k, ∀ r ∈ (itmP (parF s n) s k).1,Can r:=by
    intro k r hr
    unfold itmP at hr
    split at hr
    · exact absurd hr (jbS)
    · exact nQ (fun k=>mA n k) 64 k [] (fun r h=>absurd h (jbS)) r hr
   show Can (parP (itmP (parF s n) s) s k).1
   unfold parP
   split
   · exact .txt _
   split
   · exact .lst _ (itm _)
   split
   · unfold strP
     repeat' split
     all_goals first
      | exact .nil
      | exact .str _ _
   split
   · unfold tabP
     repeat' split
     all_goals first
      | exact .nil
      | exact .tbl _ _
   split
   · exact .err _
   · exact .num _
theorem ul {val:Int→Bool→Rd3} (h:∀ k b,Can (val k b).1):∀ (m:Nat) (k:Int) (b:Bool) (out:List (List D)),(∀ r ∈ out,Can r)→∀ r ∈ (bz val s m k b out).1,Can r
 | 0,_,_,_,ho=>ho
 | m+1,k,b,out,ho=>by
   have ho' : ∀ r ∈ out++[(val k b).1],Can r:=by
    intro r hr
    rcases jco.1 hr with h2|h2
    · exact ho r h2
    · rw [jcF.1 h2];exact h k b
   unfold bz
   split
   · exact ho
   split
   · exact ho'
   · exact ul h m _ _ _ ho'
theorem uk:∀ (d:Nat) (k:Int) (b:Bool),Can (valI s d k b).1
 | 0, k,b=>by
   unfold valI
   split
   · split
     · exact .nil
     · exact .txt _
   · exact .num _
 | d+1,k,b=>by
   unfold valI
   split
   · split
     · exact .nil
     · exact .txt _
   split
   · split
     · exact .lst [] (fun r h=>absurd h (jbS))
     · exact .lst _ (ul (fun k b=>uk d k b) _ _ _ [] (fun r h=>absurd h (jbS)))
   · exact .num _
theorem uj:Can (bN s).1:=by
 unfold bN
 split
 · exact .err _
 split
 · exact .str _ _
 split
 · exact .tbl _ _
 · exact uk 3 0 true
end
section
variable {s:ByteArray}
theorem Rest.whole {l:List UInt8} (h:s.data.toList=l):Rest s 0 l:=⟨jbP _,by rw [List.drop_zero];exact h⟩
theorem rr (h1:stB s 0 ERR=false) (h2:stB s 0 RNG=false) (h3:stB s 0 TBO=false):bN s=valI s 3 0 true:=by
 unfold bN
 rw [if_neg (by rw [h1];decide),if_neg (by rw [h2];decide),if_neg (by rw [h3];decide)]
theorem rC {v:List D} (hc:Can v) (ho:okV v=true) (hk:elK v=true) (hs:s.data.toList=fB v) {n:Nat} (hn:5≤n) :
 parF s n 0=(v,(s.size:Int))∧bN s=(v,(s.size:Int),true):=by
 have hr:Rest s 0 (fB v++[]):=Rest.whole (by rw [hs,jdc])
 have hl:(fB v).length=s.size:=by rw [← hs,jb5];rfl
 have hd:depV v≤3:=by
  cases hc with
  | nil=>cases hk
  | num n=>rw [dF];exact (show (0:Int)+1≤3 by decide)
  | txt t=>rw [dF];exact (show (0:Int)+1≤3 by decide)
  | lst l h=>exact (d9 (okV_list ho rfl).1).2.2
  | str n m=>cases hk
  | tbl c l=>cases hk
  | err n=>cases hk
 obtain ⟨m,rfl⟩:∃ m,n=m+1:=⟨n - 1,by omega⟩
 obtain ⟨hS,_,b,r,hb,_⟩:=ub (s:=s) m v hc ho hk (by omega)
 obtain ⟨_,hI,_⟩:=ub (s:=s) 2 v hc ho hk (by omega)
 have h1:=hS 0 [] hr sn
 have h2:=hI 0 [] hr sn
 rw [jcv,hl] at h1 h2
 have hbb:b=34∨b=91∨mdB (b.toNat:Int)=true:=by
  cases hc with
  | nil=>cases hk
  | num n =>
    obtain ⟨b',r',h',hm⟩:=fa n
    rw [lw,h'] at hb
    obtain ⟨rfl,_⟩:=jdb hb
    exact .inr (.inr hm)
  | txt t=>rw [nD] at hb;exact .inl (jdb hb).1.symm
  | lst l h=>rw [kv] at hb;exact .inr (.inl (jdb hb).1.symm)
  | str n m=>cases hk
  | tbl c l=>cases hk
  | err n=>cases hk
 have hno:∀ {w:ByteArray} {c:UInt8} {t:List UInt8},w.data.toList=c :: t→c ≠ 34→c ≠ 91→mdB (c.toNat:Int)=false→stB s 0 w=false:=by
  intro w c t hw c1 c2 c3
  rw [jdc,hb] at hr
  refine hr.no hw ?_
  rcases hbb with rfl|rfl|h
  · exact c1
  · exact c2
  · exact uq h c3
 refine ⟨h1,?_⟩
 rw [rr (hno (w:=ERR) rfl (by decide) (by decide) rfl) (hno (w:=RNG) rfl (by decide) (by decide) rfl) (hno (w:=TBO) rfl (by decide) (by decide) rfl)]
 exact h2
theorem pV (a:Nat):decide (((a:Nat):Int) < 0)=false:=decide_eq_false (by omega)
theorem jbl (n m:Int):fB (vStr n m)=RNG.data.toList++(Lib.itoa n++(COMMA.data.toList++(Lib.itoa m++[41]))):=by
 show (fmtV (vStr n m)).data.toList=_
 rw [← fm4 (n:=n) (st:=m) (tx:=ES) (l4:=[]) (l5:=[]) (l6:=[])]
 simp [bn]
theorem xw {n m:Int} (hn:inR n (-1000000000) 1000000000=true) (hm:inR m (-1000000000) 1000000000=true) (hs:s.data.toList=fB (vStr n m)) (f:Nat) :
 parF s (f+1) 0=(vStr n m,(s.size:Int))∧bN s=(vStr n m,(s.size:Int),true):=by
 rw [jbl] at hs
 have r0:Rest s 0 (RNG.data.toList++(Lib.itoa n++(COMMA.data.toList++(Lib.itoa m++[41])))):=Rest.whole hs
 have r1:Rest s 6 (Lib.itoa n++(COMMA.data.toList++(Lib.itoa m++[41]))):=r0.step
 have n1:=r1.num (lj rfl) hn
 have r2:Rest s (6+(Lib.itoa n).length) (COMMA.data.toList++(Lib.itoa m++[41])):=r1.step
 have r3:Rest s (6+(Lib.itoa n).length+2) (Lib.itoa m++[41]):=r2.step
 have n2:=r3.num (lj rfl) hm
 have r4:Rest s (6+(Lib.itoa n).length+2+(Lib.itoa m).length) [41]:=r3.step
 have hz:=r4.size
 have s0:stB s 0 QUO=false:=r0.no (w:=QUO) (c:=34) (r:=[]) rfl (by decide)
 have s1:stB s 0 LBR=false:=r0.no (w:=LBR) (c:=91) (r:=[]) rfl (by decide)
 have s2:stB s 0 RNG=true:=r0.yes
 have sE:stB s 0 ERR=false:=r0.no (w:=ERR) (c:=101) rfl (by decide)
 have sC:stB s ((6+(Lib.itoa n).length:Nat):Int) COMMA=true:=r2.yes
 have sP:stB s ((6+(Lib.itoa n).length+2+(Lib.itoa m).length:Nat):Int) RPA=true:=Rest.yes (w:=RPA) (q:=[]) r4
 have i1:intP s 6=(n,((6+(Lib.itoa n).length:Nat):Int)):=n1.1
 have e1:(((6+(Lib.itoa n).length:Nat):Int))+2=((6+(Lib.itoa n).length+2:Nat):Int):=by omega
 have e2:(((6+(Lib.itoa n).length+2+(Lib.itoa m).length:Nat):Int))+1=(s.size:Int):=by rw [hz];simp
 refine ⟨?_,?_⟩
 · show parP _ s 0=_
   rw [jaM (y:=6) rfl s0 s1 s2]
   rw [vS (y:=((6+(Lib.itoa n).length+2:Nat):Int)) (by rw [i1];exact e1.symm) (by rw [i1];exact pV _) (by rw [i1];exact notT sC) (by rw [n2.1];exact pV _) (by rw [n2.1];exact notT sP),i1,n2.1]
   show (vStr n m,_)=_
   rw [e2]
 · have j1:aW s 6 true=(vNum n,((6+(Lib.itoa n).length:Nat):Int),true):=n1.2 true
   have ak:andK s ((6+(Lib.itoa n).length:Nat):Int) true COMMA=((6+(Lib.itoa n).length+2:Nat):Int):=by
    rw [← ie rfl,dq sC];exact e1
   have ab:andB s ((6+(Lib.itoa n).length:Nat):Int) true COMMA=true:=by rw [← ig rfl];exact sC
   have bk:andK s ((6+(Lib.itoa n).length+2+(Lib.itoa m).length:Nat):Int) true RPA=(s.size:Int):=by
    rw [← ie rfl,dq sP];exact e2
   have bb:andB s ((6+(Lib.itoa n).length+2+(Lib.itoa m).length:Nat):Int) true RPA=true:=by rw [← ig rfl];exact sP
   unfold bN
   rw [if_neg (by rw [sE];decide),if_pos s2,j1]
   show (vStr (iAt (vNum n) 1) (iAt (aW s (andK s ((6+(Lib.itoa n).length:Nat):Int) true COMMA) (andB s ((6+(Lib.itoa n).length:Nat):Int) true COMMA)).1 1),_,_)=_
   rw [ak,ab,n2.2 true]
   show (vStr n m,andK s ((6+(Lib.itoa n).length+2+(Lib.itoa m).length:Nat):Int) true RPA,andB s ((6+(Lib.itoa n).length+2+(Lib.itoa m).length:Nat):Int) true RPA)=_
   rw [bk,bb]
theorem nE {n:Int} (h1:1≤n) (h8:n≤8):errC (errB n)=n:=by
 have:∀ k:Nat,k < 9→1≤k→errC (errB (k:Int))=(k:Int):=by decide +kernel
 have:=this n.toNat (by omega) (by omega)
 rwa [show ((n.toNat:Nat):Int)=n by omega] at this
theorem jbm (n:Int):fB (vErr n)=ERR.data.toList++(errB n).data.toList:=by
 show (fmtV (vErr n)).data.toList=_
 rw [← fm6 (n:=n) (st:=0) (tx:=ES) (l4:=[]) (l5:=[]) (l6:=[])]
 simp
theorem xx {n:Int} (h1:1≤n) (h8:n≤8) (hs:s.data.toList=fB (vErr n)) (f:Nat):parF s (f+1) 0=(vErr n,(s.size:Int))∧bN s=(vErr n,(s.size:Int),true):=by
 rw [jbm] at hs
 have r0:Rest s 0 (ERR.data.toList++(errB n).data.toList):=Rest.whole hs
 have r1:Rest s 6 ((errB n).data.toList):=r0.step
 have s0:stB s 0 QUO=false:=r0.no (w:=QUO) (c:=34) (r:=[]) rfl (by decide)
 have s1:stB s 0 LBR=false:=r0.no (w:=LBR) (c:=91) (r:=[]) rfl (by decide)
 have s2:stB s 0 RNG=false:=r0.no (w:=RNG) (c:=114) rfl (by decide)
 have s3:stB s 0 TBO=false:=r0.no (w:=TBO) (c:=116) rfl (by decide)
 have sE:stB s 0 ERR=true:=r0.yes
 have ht:s.extract 6 s.size=errB n:=by
  apply jda
  apply jc7
  rw [jx,r1.2]
 refine ⟨?_,?_⟩
 · show parP _ s 0=_
   rw [jaK (y:=6) rfl s0 s1 s2 s3 sE,show s.extract (6:Int).toNat s.size=s.extract 6 s.size from rfl,ht,nE h1 h8]
 · unfold bN
   rw [if_pos sE,ht,tT,nE h1 h8]
end
section
variable {s:ByteArray}
def cf (v:List D):List D:=vLst ((lst v).map fun y=>vNum (iAt y 1))
theorem oD (v:List D):aD (cf v)=aD v:=by
 show [D.l (((lst v).map fun y=>vNum (iAt y 1)).map fun y=>[.i (iAt y 1)]),.l []]=_
 rw [jdd]
 rfl
theorem vr (v:List D):fB (cf v)=(rowT (aD v)).data.toList:=by
 unfold cf rowT
 rw [kv,jA]
 show 91 :: (Lib.join (((lst v).map fun y=>vNum (iAt y 1)).map fB) [44,32]++[93])=91 :: (Lib.join ((tf ((lst v).map fun y=>[D.i (iAt y 1)])).map (·.data.toList)) [44,32]++[93])
 congr 3
 unfold tf
 rw [jdd,jdd,jdd]
 refine jdj fun y _=>?_
 show fB (vNum (iAt y 1))=(aH (iAt y 1)).data.toList
 rw [lw,bn]
theorem iN {n:Nat} {v:List D} (hn:n≤4) (h:rowOk n (aD v)=true) (m:Nat):GS s (m+2) (cf v)∧GI s (m+1) (cf v)∧Hd (cf v):=by
 obtain ⟨h1,_,h3⟩:=lV h
 have h1:((lst v).map fun y=>[D.i (iAt y 1)]).length=n:=h1
 rw [jb0] at h1
 have hr:∀ y ∈ lst v,inR (iAt y 1) (-1000000000) 1000000000=true:=by
  intro y hy
  obtain ⟨i,hi,rfl⟩:=dJ [] hy
  have:=h3 i (by show i < ((lst v).map fun y=>[D.i (iAt y 1)]).length;rw [jb0];exact hi)
  have e:rAt ((lst v).map fun y=>[D.i (iAt y 1)]) i=[D.i (iAt ((lst v).getD i []) 1)]:=by
   simp [rAt,jbT,jbN hi]
  have this:inR (iAt (rAt ((lst v).map fun y=>[D.i (iAt y 1)]) i) 0) (-1000000000) 1000000000=true:=this
  rw [e] at this
  exact this
 have hl:((lst v).map fun y=>vNum (iAt y 1)).length≤64:=by rw [jb0];omega
 have g1:∀ x ∈ (lst v).map fun y=>vNum (iAt y 1),GS s (m+1) x:=by
  intro x hx
  obtain ⟨y,hy,rfl⟩:=jcw.1 hx
  exact ta (hr y hy) m
 have g2:∀ x ∈ (lst v).map fun y=>vNum (iAt y 1),GI s m x:=by
  intro x hx
  obtain ⟨y,hy,rfl⟩:=jcw.1 hx
  exact tb (hr y hy) m
 have g3:∀ x ∈ (lst v).map fun y=>vNum (iAt y 1),Hd x:=by
  intro x hx
  obtain ⟨y,hy,rfl⟩:=jcw.1 hx
  exact tM _
 exact ⟨tn hl g1 g3,tp g2 g3,⟨91,_,kv _,by decide⟩⟩
theorem th {t:ByteArray} (h:cc t=true):∀ b ∈ t.data.toList,b ≠ 32∧((b.toNat:Int) != 34)=true:=by
 intro b hb
 unfold cc gQ at h
 rw [jb1,jb1,allB_iff] at h
 obtain ⟨i,hi,rfl⟩:=dJ 0 hb
 have hl:t.data.toList.length=t.size:=jb5
 have:=h.1.1 i (by omega)
 have e:bAt t i=((t.data.toList.getD i 0).toNat:Int):=by
  show ((t.data.getD i 0).toNat:Int)=_
  rw [jcS,jbT,jcR]
 unfold cg letB digB at this
 rw [e] at this
 simp only [jdg,jb1,decide_eq_true_eq] at this
 refine ⟨fun h32=>?_,?_⟩
 · rw [h32] at this
   have e2:((32:UInt8).toNat:Int)=32:=rfl
   omega
 · rw [bne_iff_ne]
   omega
theorem lq {P:UInt8→Prop} (hP:P 32):∀ (ws:List (List UInt8)),(∀ w ∈ ws, ∀ b ∈ w,P b)→∀ b ∈ Lib.join ws [32],P b
 | [],_,b,hb=>by rw [Lib.join_nil] at hb;exact absurd hb (jbS)
 | [w],h,b,hb=>by rw [Lib.join_one] at hb;exact h w (jb6 _) b hb
 | w :: x :: r,h,b,hb=>by
   rw [jt] at hb
   rcases jco.1 hb with h1|h1
   · exact h w (jcj ..) b h1
   · rcases jco.1 h1 with h2|h2
     · rw [jcF.1 h2];exact hP
     · exact lq hP (x :: r) (fun w hw=>h w (jcx _ hw)) b h2
theorem kY {c:List ByteArray} (hne:c ≠ []) (h:∀ t ∈ c, ∀ b ∈ t.data.toList,b ≠ 32):aj (bg c ⟨#[32]⟩)=c:=by
 unfold aj bg
 show (az (Lib.join (c.map (·.data.toList)) [32])).map _=c
 rw [mJ (by simpa using hne) (by
  intro w hw
  obtain ⟨t,ht,rfl⟩:=jcw.1 hw
  exact h t ht),jdd]
 conv=>rhs;rw [← List.map_id c]
 refine jdj fun t _=>?_
 apply jda
 apply jc7
 simp
theorem jbk (c:List ByteArray) (l:List (List D)):fB (vTbl (ae c) (l.map aD))=TBO.data.toList++(34 :: ((bg c ⟨#[32]⟩).data.toList++34 :: (COMMA.data.toList++(91 :: (Lib.join ((l.map cf).map fB) [44,32]++93 :: [41]))))):=by
 show (fmtV (vTbl (ae c) (l.map aD))).data.toList=_
 rw [← fm5 (n:=0) (st:=0) (tx:=ES) (l4:=[]) (l5:=ae c) (l6:=l.map aD),aP]
 have e:(iA (l.map aD)).data.toList=91 :: (Lib.join ((l.map cf).map fB) [44,32]++[93]):=by
  unfold iA
  rw [jA,jdd,jdd,jdd]
  congr 3
  refine jdj fun v _=>?_
  exact (vr v).symm
 simp only [ByteArray.data_append,Array.toList_append,e]
 simp
theorem xv {c:List ByteArray} {l:List (List D)} (ho:okV (vTbl (ae c) (l.map aD))=true) (hs:s.data.toList=fB (vTbl (ae c) (l.map aD))) (f:Nat) :
 parF s (f+3) 0=(vTbl (ae c) (l.map aD),(s.size:Int))∧bN s=(vTbl (ae c) (l.map aD),(s.size:Int),true):=by
 obtain ⟨tc,t12,tr⟩:=lG (okV_tbl ho rfl).1
 have tc:dA (ae c)=true:=tc
 have t12:(l.map aD).length≤12:=t12
 have tr:∀ i,i < (l.map aD).length→rowOk (ae c).length (rAt (l.map aD) i)=true:=tr
 obtain ⟨c1,c4,cn,_⟩:=kF tc
 rw [aB] at c1 c4 cn
 rw [jb0] at t12
 have cne:c ≠ []:=fun e=>by rw [e] at c1;exact absurd c1 (by decide)
 have cname:∀ t ∈ c,cc t=true:=by
  intro t ht
  obtain ⟨i,hi,he⟩:=jdu.1 ht
  have:=cn i hi
  have e:tAt (ae c) i=t:=by
   simp [tAt,ae,jbT,jbN hi,D.str,he]
  rwa [e] at this
 have hw:aj (bg c ⟨#[32]⟩)=c:=kY cne fun t ht b hb=>(th (cname t ht) b hb).1
 have hq:∀ b ∈ (bg c ⟨#[32]⟩).data.toList,((b.toNat:Int) != 34)=true:=by
  have:(bg c ⟨#[32]⟩).data.toList=Lib.join (c.map (·.data.toList)) [32]:=by unfold bg;simp
  rw [this]
  refine lq (P:=fun b=>((b.toNat:Int) != 34)=true) rfl _ fun w hw b hb=>?_
  obtain ⟨t,ht,rfl⟩:=jcw.1 hw
  exact (th (cname t ht) b hb).2
 have hrow:∀ v ∈ l,rowOk c.length (aD v)=true:=by
  intro v hv
  obtain ⟨i,hi,rfl⟩:=dJ [] hv
  have:=tr i (by rw [jb0];exact hi)
  have e:rAt (l.map aD) i=aD (l.getD i []):=by
   simp [rAt,jbT,jbN hi]
  rwa [e,aB] at this
 have gS:∀ x ∈ l.map cf,GS s (f+2) x:=by
  intro x hx
  obtain ⟨v,hv,rfl⟩:=jcw.1 hx
  exact (iN c4 (hrow v hv) f).1
 have gI:∀ x ∈ l.map cf,GI s 1 x:=by
  intro x hx
  obtain ⟨v,hv,rfl⟩:=jcw.1 hx
  exact (iN c4 (hrow v hv) 0).2.1
 have gH:∀ x ∈ l.map cf,Hd x:=by
  intro x hx
  obtain ⟨v,hv,rfl⟩:=jcw.1 hx
  exact (iN (s:=s) c4 (hrow v hv) 0).2.2
 have hmap:(l.map cf).map aD=l.map aD:=by
  rw [jdd]
  exact jdj fun v _=>oD v
 rw [jbk] at hs
 generalize ht:bg c ⟨#[32]⟩=t at *
 generalize hJ:Lib.join ((l.map cf).map fB) [44,32]=J at *
 have r0:Rest s 0 (TBO.data.toList++(34 :: (t.data.toList++34 :: (COMMA.data.toList++(91 :: (J++93 :: [41])))))):=Rest.whole hs
 have r1:Rest s 6 (34 :: (t.data.toList++34 :: (COMMA.data.toList++(91 :: (J++93 :: [41]))))):=r0.step
 have q1:=r1.quo hq
 have hl:t.data.toList.length=t.size:=jb5
 have r2:Rest s (6+2+t.size) (COMMA.data.toList++(91 :: (J++93 :: [41]))):=by
  have a:Rest s 7 (t.data.toList++34 :: (COMMA.data.toList++(91 :: (J++93 :: [41])))):=Rest.step (w:=[34]) r1
  have b:Rest s (7+t.data.toList.length) (34 :: (COMMA.data.toList++(91 :: (J++93 :: [41])))):=a.step
  have d:Rest s (7+t.data.toList.length+1) (COMMA.data.toList++(91 :: (J++93 :: [41]))):=Rest.step (w:=[34]) b
  rw [hl] at d
  rwa [show 6+2+t.size=7+t.size+1 by omega]
 have r3:Rest s (6+2+t.size+2) (91 :: (J++93 :: [41])):=r2.step
 have r4:Rest s (6+2+t.size+3) (J++93 :: [41]):=Rest.step (w:=[91]) r3
 have r5:Rest s (6+2+t.size+3+J.length+1) [41]:=by
  have a:Rest s (6+2+t.size+3+J.length) (93 :: [41]):=r4.step
  exact Rest.step (w:=[93]) a
 have hz:=r5.size
 have s0:stB s 0 QUO=false:=r0.no (w:=QUO) (c:=34) (r:=[]) rfl (by decide)
 have s1:stB s 0 LBR=false:=r0.no (w:=LBR) (c:=91) (r:=[]) rfl (by decide)
 have s2:stB s 0 RNG=false:=r0.no (w:=RNG) (c:=114) rfl (by decide)
 have sE:stB s 0 ERR=false:=r0.no (w:=ERR) (c:=101) rfl (by decide)
 have s3:stB s 0 TBO=true:=r0.yes
 have sL:stB s ((6+2+t.size:Nat):Int) CLB=true:=Rest.yes (w:=CLB) (q:=J++93 :: [41]) r2
 have sC:stB s ((6+2+t.size:Nat):Int) COMMA=true:=r2.yes
 have sP:stB s ((6+2+t.size+3+J.length+1:Nat):Int) RPA=true:=Rest.yes (w:=RPA) (q:=[]) r5
 have q2:quoP s 6=(t,((6+2+t.size:Nat):Int)):=q1.2
 have e1:(((6+2+t.size:Nat):Int))+3=((6+2+t.size+3:Nat):Int):=by omega
 have e2:(((6+2+t.size+3+J.length+1:Nat):Int))+1=(s.size:Int):=by rw [hz];simp
 have lS:itmP (parF s (f+2)) s ((6+2+t.size+3:Nat):Int)=(l.map cf,((6+2+t.size+3+J.length+1:Nat):Int)):=by
  have:=wK (n:=f+2) (l:=l.map cf) (by rw [jb0];omega) gS gH (k:=6+2+t.size+3) (q:=[41]) (by rw [hJ];exact r4)
  rw [hJ] at this
  exact this
 have lI:valI s 2 ((6+2+t.size+2:Nat):Int) true=(vLst (l.map cf),((6+2+t.size+3+J.length+1:Nat):Int),true):=by
  have:=wL (d:=1) (l:=l.map cf) gI gH (k:=6+2+t.size+2) (q:=[41]) (by rw [hJ];exact r3) (by
   rw [jb0]
   omega)
  rw [hJ] at this
  rw [this]
  congr 2
  omega
 refine ⟨?_,?_⟩
 · show parP (itmP (parF s (f+2)) s) s 0=_
   rw [jaL (y:=6) rfl s0 s1 s2 s3]
   rw [zG (y:=((6+2+t.size+3:Nat):Int)) (by rw [q2];exact e1.symm) (by rw [q2];exact pV _) (by rw [q2];exact notT sL) (by rw [lS];exact pV _) (by rw [lS];exact notT sP),lS,q2]
   show (vTbl (ae (aj t)) ((l.map cf).map aD),_)=_
   rw [hw,hmap,e2]
 · have v0:valI s 0 6 true=(vTxt t,((6+2+t.size:Nat):Int),true):=by
    rw [qv (k:=6) q1.1 (by rw [q2];show ¬ ((6+2+t.size:Nat):Int) < 0;omega) 0,q2]
   have ak:andK s ((6+2+t.size:Nat):Int) true COMMA=((6+2+t.size+2:Nat):Int):=by
    rw [← ie rfl,dq sC]
    show (((6+2+t.size:Nat):Int))+2=_
    omega
   have ab:andB s ((6+2+t.size:Nat):Int) true COMMA=true:=by rw [← ig rfl];exact sC
   have bk:andK s ((6+2+t.size+3+J.length+1:Nat):Int) true RPA=(s.size:Int):=by
    rw [← ie rfl,dq sP];exact e2
   have bb:andB s ((6+2+t.size+3+J.length+1:Nat):Int) true RPA=true:=by rw [← ig rfl];exact sP
   have hW:=jbK (num:=aW) (va:=fun s k b=>valI s 0 k b) (vb:=fun s k b=>valI s 2 k b) (vc:=fun s k b=>valI s 3 k b) (s:=s) (P:=6) rfl sE s2 s3
   rw [← rt,hW]
   have sq:seqR s ((fun s k b=>valI s 0 k b) s 6 true) ((fun s k b=>valI s 2 k b) s)=(vLst (l.map cf),((6+2+t.size+3+J.length+1:Nat):Int),true):=by
    show seqR s (valI s 0 6 true) (fun k b=>valI s 2 k b)=_
    rw [v0]
    show valI s 2 (andK s ((6+2+t.size:Nat):Int) true COMMA) (andB s ((6+2+t.size:Nat):Int) true COMMA)=_
    rw [ak,ab,lI]
   rw [sq]
   show (vTbl (ae (aj ((valI s 0 6 true).1.getD 3 default).str)) ((l.map cf).map aD),andK s ((6+2+t.size+3+J.length+1:Nat):Int) true RPA,andB s ((6+2+t.size+3+J.length+1:Nat):Int) true RPA)=_
   rw [bk,bb,hmap,v0]
   show (vTbl (ae (aj t)) _,_,_)=_
   rw [hw]
theorem pw {v:List D} (hc:Can v) (ho:okV v=true) (hs:s.data.toList=fB v) {n:Nat} (hn:5≤n):parF s n 0=(v,(s.size:Int))∧bN s=(v,(s.size:Int),true):=by
 obtain ⟨f,rfl⟩:∃ f,n=f+3:=⟨n - 3,by omega⟩
 cases hc with
 | nil=>exact absurd (okV_kind ho) (by decide)
 | num n=>exact rC (.num n) ho rfl hs hn
 | txt t=>exact rC (.txt t) ho rfl hs hn
 | lst l h=>exact rC (.lst l h) ho rfl hs hn
 | str n m=>exact xw (okV_str ho rfl).1 (okV_str ho rfl).2 hs (f+2)
 | tbl c l=>exact xv ho hs f
 | err n=>exact xx (okV_err ho rfl).1 (okV_err ho rfl).2 hs (f+2)
theorem sV {v:List D} {e:Bool} {s:ByteArray} (h:(pvOf v e s).2=true):e=true∧okV v=true∧s.data.toList=fB v∧pvOf v e s=(v,true):=by
 unfold pvOf at h ⊢
 split at h
 · rename_i hc
   rw [if_pos hc]
   have ho:okV v=true:=by
    cases hv:okV v with
    | true=>rfl
    | false =>
      have:=hc.2.1
      rw [oW hv,bc] at this
      exact absurd this.symm hc.2.2
   have:=hc.2.1
   rw [cE ho,aS] at this
   exact ⟨hc.1,ho,by rw [← this],rfl⟩
 · cases h
theorem sW {v:List D} {e:Bool} {s:ByteArray} (h:(pvOf v e s).2=false):pvOf v e s=(vNil,false):=by
 unfold pvOf at h ⊢
 split at h
 · cases h
 · rename_i hc;rw [if_neg hc]
theorem pS {v:List D} (ho:okV v=true) (hs:s.data.toList=fB v):pvOf v true s=(v,true):=by
 have e:fmtV v=s:=by
  apply jda
  apply jc7
  exact hs.symm
 have hne:s.toList ≠ []:=by
  intro h
  rw [← bc,aS] at h
  subst h
  have h0:fB v=[]:=hs.symm
  have h2:∃ b r,fB v=b :: r:=by
   rcases okV_kind ho with hk|hk|hk|hk|hk|hk
   all_goals
    show ∃ b r,(fmtV v).data.toList=b :: r
    rw [cq]
    unfold cz
   · rw [if_pos hk,bn];obtain ⟨b,r,h,_⟩:=fa (iAt v 1);exact ⟨b,r,h⟩
   · rw [if_neg (by omega),if_pos hk];exact ⟨34,(v.getD 3 default).str.data.toList++[34],by simp⟩
   · rw [if_neg (by omega),if_neg (by omega),if_neg (by omega),if_neg (by omega),if_neg (by omega),jA];exact ⟨_,_,rfl⟩
   · rw [if_neg (by omega),if_neg (by omega),if_pos hk];simp
   · rw [if_neg (by omega),if_neg (by omega),if_neg (by omega),if_pos hk];simp
   · rw [if_neg (by omega),if_neg (by omega),if_neg (by omega),if_neg (by omega),if_pos hk];simp
  obtain ⟨b,r,h3⟩:=h2
  rw [h0] at h3
  cases h3
 unfold pvOf
 rw [if_pos ⟨rfl,by rw [cE ho,e],hne⟩]
theorem xX {n:Nat} (hn:5≤n) (s:ByteArray):pvS n s=pvI s:=by
 cases hS:(pvS n s).2 with
 | true =>
   obtain ⟨_,ho,hs,he⟩:=sV hS
   have:=(pw (mA n 0) ho hs hn).2
   unfold pvI
   rw [this]
   show pvS n s=pvOf (parF s n 0).1 (true && (s.size:Int) == (s.size:Int)) s
   rw [show (true && (s.size:Int) == (s.size:Int))=true by simp,pS ho hs]
   exact he
 | false =>
   have h1:=sW hS
   cases hI:(pvI s).2 with
   | true =>
     obtain ⟨_,ho,hs,he⟩:=sV hI
     have:=(pw uj ho hs hn).1
     have hc:pvS n s=pvOf (bN s).1 true s:=by
      unfold pvS
      rw [this]
      show pvOf (bN s).1 ((s.size:Int) == (s.size:Int)) s=_
      rw [beq_self_eq_true]
     rw [hc,pS ho hs] at hS
     cases hS
   | false =>
     have h2:=sW hI
     exact h1.trans h2.symm
end
end Go.Proofs.YtdjfhmghebommaaGreatDoor.Ab
