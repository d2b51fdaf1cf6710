/- Values read back from their texts, by the reference and by the program, in plain Lean. No -/
import Derived.Test.YtkpnfbdoaljkpaaGreatDoorCYv
namespace Go.Proofs.YtkpnfbdoaljkpaaGreatDoor.Ab
open Go.RowKit
set_option linter.all false
def Rest (s:ByteArray) (k:Nat) (l:List UInt8):Prop:=k≤s.size∧s.data.toList.drop k=l
theorem Rest.step {s:ByteArray} {k:Nat} {w q:List UInt8} (h:Rest s k (w++q)):Rest s (k+w.length) q:=by
 obtain ⟨h1,h2⟩:=h
 have hl:(s.data.toList.drop k).length=s.size - k:=by rw [jby,jba];rfl
 rw [h2,jaV] at hl
 refine ⟨by omega,?_⟩
 rw [← List.drop_drop,h2]
 exact List.drop_left
theorem Rest.size {s:ByteArray} {k:Nat} {l:List UInt8} (h:Rest s k l):s.size=k+l.length:=by
 have hl:(s.data.toList.drop k).length=s.size - k:=by rw [jby,jba];rfl
 rw [h.2] at hl
 have:=h.1
 omega
theorem Rest.st {s:ByteArray} {k:Nat} {l:List UInt8} (h:Rest s k l) (w:ByteArray):stB s (k:Int) w=w.data.toList.isPrefixOf l:=by
 rw [← rz h.1,iJ,h.2]
 rfl
theorem Rest.yes {s:ByteArray} {k:Nat} {w:ByteArray} {q:List UInt8} (h:Rest s k (w.data.toList++q)):stB s (k:Int) w=true:=by
 rw [h.st,List.isPrefixOf_iff_prefix]
 exact List.prefix_append _ _
theorem Rest.no {s:ByteArray} {k:Nat} {b:UInt8} {q:List UInt8} (h:Rest s k (b :: q)) {w:ByteArray} {c:UInt8} {r:List UInt8} (hw:w.data.toList=c :: r) (hn:c ≠ b):stB s (k:Int) w=false:=by
 rw [h.st,hw]
 show (c == b && _)=false
 rw [show (c == b)=false by simpa using hn]
 rfl
theorem Rest.ext {s:ByteArray} {k:Nat} {w q:List UInt8} (h:Rest s k (w++q)):s.extract k (k+w.length)=⟨w.toArray⟩:=by
 apply jcf
 apply jcc
 rw [ext_list,List.drop_take,h.2,show k+w.length - k=w.length by omega]
 simp
theorem Rest.run {s:ByteArray} {k:Nat} {w q:List UInt8} (h:Rest s k (w++q)) {P:Int→Bool} (hw:∀ b ∈ w,P (b.toNat:Int)=true) (hq:∀ b r,q=b :: r→P (b.toNat:Int)=false):runB P s k=k+w.length:=by
 unfold runB
 rw [h.2,List.takeWhile_append_of_pos hw]
 have:(q.takeWhile fun b=>P (b.toNat:Int))=[]:=by
  cases q with
  | nil=>rfl
  | cons b r=>exact jcW (by rw [hq b r rfl];decide)
 rw [this,jch]
def Sep (q:List UInt8):Prop:=∀ b r,q=b :: r→mdB (b.toNat:Int)=false
theorem kh {b:UInt8} {r:List UInt8} (h:mdB (b.toNat:Int)=false):Sep (b :: r):=by
 intro b' r' he
 obtain ⟨rfl,rfl⟩:=jcg he
 exact h
theorem qV:Sep []:=fun b r h=>by cases h
theorem vm {b:UInt8} (h:mdB (b.toNat:Int)=false):digB (b.toNat:Int)=false:=by
 unfold mdB at h
 rw [Bool.or_eq_false_iff] at h
 exact h.2
theorem lz {u:Nat}:∀ b ∈ Lib.decDigits u,digB (b.toNat:Int)=true:=by
 intro b hb
 have:=e9 u b hb
 unfold digB
 rw [ja6,decide_eq_true_eq,decide_eq_true_eq]
 omega
theorem rW (n:Int):∀ b ∈ Lib.itoa n,mdB (b.toNat:Int)=true:=by
 intro b hb
 have hd:∀ u,b ∈ Lib.decDigits u→mdB (b.toNat:Int)=true:=fun u h=>by
  unfold mdB;rw [lz b h];simp
 unfold Lib.itoa at hb
 split at hb
 · rcases ja1.1 hb with h|h
   · rw [h];rfl
   · exact hd _ h
 · exact hd _ hb
theorem en (n:Int):∃ b r,Lib.itoa n=b :: r∧mdB (b.toNat:Int)=true:=by
 have hm:=rW n
 cases h:Lib.itoa n with
 | nil =>
   have:=lk n
   have e:(aM n).size=(Lib.itoa n).length:=jbr
   rw [e,h] at this
   exact absurd rfl this
 | cons b r=>exact ⟨b,r,rfl,hm b (by rw [h];exact jbo ..)⟩
theorem sW {b c:UInt8} (h:mdB (b.toNat:Int)=true) (hc:mdB (c.toNat:Int)=false):c ≠ b:=fun e=>by rw [e,h] at hc;cases hc
theorem Rest.num {s:ByteArray} {k:Nat} {n:Int} {q:List UInt8} (h:Rest s k (Lib.itoa n++q)) (hq:Sep q) (hn:inR n (-1000000000) 1000000000=true) :
 intP s (k:Int)=(n,((k+(Lib.itoa n).length:Nat):Int))∧∀ b,bg s (k:Int) b=(vNum n,((k+(Lib.itoa n).length:Nat):Int),b):=by
 unfold inR at hn
 rw [ja6,decide_eq_true_eq,decide_eq_true_eq] at hn
 have hp:prs (-999999999999) 999999999999 (aM n)=(n,true):=fG (by omega) (by omega) rfl
 have e1:numE s k=k+(Lib.itoa n).length:=by
  unfold numE
  by_cases hneg:n < 0
  · have hi:Lib.itoa n=45 :: Lib.decDigits n.natAbs:=by unfold Lib.itoa;rw [if_pos hneg]
    rw [hi] at h
    have hs:=h.size
    have h45:bAt s k=45:=by
     have:=drop_at (s:=s) (k:=k) (by rw [hs,jaZ,ja8];omega)
     rw [h.2,jaZ] at this
     show ((s.data.getD k 0).toNat:Int)=45
     rw [← (jcg this).1];rfl
    have hsg:sgnK s k=k+1:=if_pos ⟨by rw [hs,jaZ,ja8];omega,h45⟩
    have h2:Rest s (k+1) (Lib.decDigits n.natAbs++q):=Rest.step (w:=[45]) h
    rw [hsg,h2.run lz (fun b r e=>vm (hq b r e)),hi,ja8]
    omega
  · have hi:Lib.itoa n=Lib.decDigits n.toNat:=by unfold Lib.itoa;rw [if_neg hneg]
    rw [hi] at h
    have hsg:sgnK s k=k:=by
     refine if_neg fun ⟨h1,h2⟩=>?_
     have hd:=drop_at h1
     rw [h.2] at hd
     cases he:Lib.decDigits n.toNat with
     | nil=>exact gz _ he
     | cons b r =>
       rw [he,jaZ] at hd
       have hb:=lz b (by rw [he];exact jbo ..)
       have:bAt s k=(b.toNat:Int):=by show ((s.data.getD k 0).toNat:Int)=_;rw [← (jcg hd).1]
       rw [this] at h2
       rw [h2] at hb
       cases hb
    rw [hsg,h.run lz (fun b r e=>vm (hq b r e)),hi]
 have e2:dE s (k:Int)=k+(Lib.itoa n).length:=h.run (P:=mdB) (rW n) hq
 have e3:s.extract k (k+(Lib.itoa n).length)=aM n:=h.ext
 refine ⟨?_,fun b=>?_⟩
 · have:prsN s ((k:Int).toNat)=(n,true):=by show prs _ _ (s.extract k (numE s k))=_;rw [e1,e3,hp]
   unfold intP
   rw [this]
   show (n,(numE s k:Int))=_
   rw [e1]
 · have:prsI s (k:Int)=(n,true):=by show prs _ _ (s.extract k (dE s (k:Int)))=_;rw [e2,e3,hp]
   unfold bg
   rw [this,e2]
   simp
theorem okTxt_at {t:ByteArray} (h:okTxt t=true):∀ b ∈ t.data.toList,((b.toNat:Int) != 34)=true:=by
 intro b hb
 unfold okTxt at h
 rw [ja6,allB_iff] at h
 obtain ⟨i,hi,rfl⟩:=dX 0 hb
 have hl:t.data.toList.length=t.size:=jba
 have:=h.1 i (by omega)
 unfold bc at this
 rw [jbm,Bool.or_eq_false_iff,Bool.or_eq_false_iff] at this
 have h2:=this.2
 have e:bAt t i=((t.data.toList.getD i 0).toNat:Int):=by
  show ((t.data.getD i 0).toNat:Int)=_
  rw [jbX,jaY,jbW]
 rw [e] at h2
 rw [bne,h2];rfl
theorem Rest.quo {s:ByteArray} {k:Nat} {t:ByteArray} {q:List UInt8} (h:Rest s k (34 :: (t.data.toList++34 :: q))) (ht:∀ b ∈ t.data.toList,((b.toNat:Int) != 34)=true):stB s (k:Int) QUO=true∧quoP s (k:Int)=(t,((k+2+t.size:Nat):Int)):=by
 have hq:stB s (k:Int) QUO=true:=Rest.yes (w:=QUO) h
 have h2:Rest s (k+1) (t.data.toList++34 :: q):=Rest.step (w:=[34]) h
 have hl:t.data.toList.length=t.size:=jba
 have e:quoE s (k:Int)=k+1+t.size:=by
  show runB _ s (k+1)=_
  rw [h2.run (P:=fun b=>b != 34) ht (fun b r e=>by obtain ⟨rfl,_⟩:=jcg e;rfl),hl]
 have hs:=h2.size
 rw [jaV,ja8,hl] at hs
 have e3:s.extract (k+1) (k+1+t.size)=t:=by
  have:=h2.ext
  rw [hl] at this
  rw [this]
 refine ⟨hq,?_⟩
 unfold quoP
 rw [if_pos hq,if_neg (by omega),e]
 show (s.extract (k+1) (k+1+t.size),_)=_
 rw [e3]
 congr 1
 omega
abbrev fB (v:List D):List UInt8:=(fmtV v).data.toList
theorem iH (x y:List UInt8) (r:List (List UInt8)) (sep:List UInt8):Lib.join (x :: y :: r) sep=x++(sep++Lib.join (y :: r) sep):=by
 rw [Lib.join_cons,Lib.join_cons]
 simp [Lib.joinTail]
theorem iM (xs:List ByteArray):(brk xs).data.toList=91 :: (Lib.join (xs.map (·.data.toList)) [44,32]++[93]):=by
 unfold brk bJ
 simp
theorem ku (n:Int):fB (vNum n)=Lib.itoa n:=by
 show (fmtV (vNum n)).data.toList=_
 rw [← fm1 (n:=n) (st:=0) (tx:=ES) (l4:=[]) (l5:=[]) (l6:=[]),bT]
theorem mK (t:ByteArray):fB (vTxt t)=34 :: (t.data.toList++[34]):=by
 show (fmtV (vTxt t)).data.toList=_
 rw [← fm2 (n:=0) (st:=0) (tx:=t) (l4:=[]) (l5:=[]) (l6:=[])]
 simp
theorem jI (l:List (List D)):fB (vLst l)=91 :: (Lib.join (l.map fB) [44,32]++[93]):=by
 show (fmtV (vLst l)).data.toList=_
 rw [← fm3 (n:=0) (st:=0) (tx:=ES) (l4:=l) (l5:=[]) (l6:=[]),iM,jci]
 rfl
theorem lh (v w:List D) (r:List (List D)):(Lib.join ((v :: w :: r).map fB) [44,32]).length=(fB v).length+2+(Lib.join ((w :: r).map fB) [44,32]).length:=by
 show (Lib.join (fB v :: fB w :: r.map fB) [44,32]).length=(fB v).length+2+(Lib.join (fB w :: r.map fB) [44,32]).length
 rw [iH,jaV,jaV]
 show (fB v).length+(2+_)=_
 omega
section
variable (s:ByteArray)
def GS (n:Nat) (v:List D):Prop:=∀ (k:Nat) (q:List UInt8),Rest s k (fB v++q)→Sep q→parF s n (k:Int)=(v,((k+(fB v).length:Nat):Int))
def GI (d:Nat) (v:List D):Prop:=∀ (k:Nat) (q:List UInt8),Rest s k (fB v++q)→Sep q→valI s d (k:Int) true=(v,((k+(fB v).length:Nat):Int),true)
end
def Hd (v:List D):Prop:=∃ b r,fB v=b :: r∧b ≠ 93
variable {s:ByteArray}
theorem rY {n:Nat}:∀ (l:List (List D)),l ≠ []→(∀ v ∈ l,GS s n v)→∀ (m k:Nat) (out:List (List D)) (q:List UInt8),l.length≤m→Rest s k (Lib.join (l.map fB) [44,32]++93 :: q) →
 bO (parF s n) s m (k:Int) out=(out++l,((k+(Lib.join (l.map fB) [44,32]).length+1:Nat):Int))
 | [],h,_,_,_,_,_,_,_=>absurd rfl h
 | [v],_,hg,m,k,out,q,hm,hr=>by
   obtain ⟨m,rfl⟩:∃ m',m=m' + 1:=⟨m - 1,by simp at hm;omega⟩
   rw [jcX,Lib.join_one] at hr ⊢
   have hp:=hg v (jbb _) k (93 :: q) hr (kh rfl)
   have h2:Rest s (k+(fB v).length) (93 :: q):=hr.step
   have hb:stB s (((k+(fB v).length:Nat):Int)) RBR=true:=Rest.yes (w:=RBR) h2
   rw [itF_2 (by rw [hp];exact decide_eq_false (by show ¬ ((k+(fB v).length:Nat):Int) < 0;omega)) (by rw [hp];exact hb),hp]
   rfl
 | v :: w :: r,_,hg,m,k,out,q,hm,hr=>by
   obtain ⟨m,rfl⟩:∃ m',m=m' + 1:=⟨m - 1,by simp at hm;omega⟩
   rw [jb0,jb0,iH,jbz,jbz] at hr
   have hp:=hg v (jbo ..) k _ hr (kh rfl)
   have h2:Rest s (k+(fB v).length) (44 :: (32 :: (Lib.join ((w :: r).map fB) [44,32]++93 :: q))):=hr.step
   have hb:stB s (((k+(fB v).length:Nat):Int)) RBR=false:=h2.no (w:=RBR) (c:=93) (r:=[]) rfl (by decide)
   have hc:stB s (((k+(fB v).length:Nat):Int)) COMMA=true:=Rest.yes (w:=COMMA) h2
   have h3:Rest s (k+(fB v).length+2) (Lib.join ((w :: r).map fB) [44,32]++93 :: q):=Rest.step (w:=[44,32]) h2
   have ih:=rY (n:=n) (w :: r) (by simp) (fun x hx=>hg x (jbC _ hx)) m (k+(fB v).length+2) (out++[v]) q (by simp at hm ⊢;omega) h3
   rw [itF_4 (by rw [hp];exact decide_eq_false (by show ¬ ((k+(fB v).length:Nat):Int) < 0;omega)) (by rw [hp];exact hb) (by rw [hp];exact notT hc),hp]
   show bO (parF s n) s m ((((k+(fB v).length:Nat):Int))+2) (out++[v])=_
   rw [show (((k+(fB v).length:Nat):Int))+2=((k+(fB v).length+2:Nat):Int) by omega,ih,lh,jbz]
   show (out++(v :: w :: r),_)=_
   congr 2
   omega
theorem rZ {d:Nat}:∀ (l:List (List D)),l ≠ []→(∀ v ∈ l,GI s d v)→∀ (m k:Nat) (out:List (List D)) (q:List UInt8),l.length≤m→Rest s k (Lib.join (l.map fB) [44,32]++93 :: q) →
 bE (valI s d) s m (k:Int) true out=(out++l,((k+(Lib.join (l.map fB) [44,32]).length+1:Nat):Int),true)
 | [],h,_,_,_,_,_,_,_=>absurd rfl h
 | [v],_,hg,m,k,out,q,hm,hr=>by
   obtain ⟨m,rfl⟩:∃ m',m=m' + 1:=⟨m - 1,by simp at hm;omega⟩
   rw [jcX,Lib.join_one] at hr ⊢
   have hp:=hg v (jbb _) k (93 :: q) hr (kh rfl)
   have h2:Rest s (k+(fB v).length) (93 :: q):=hr.step
   have hb:stB s (((k+(fB v).length:Nat):Int)) RBR=true:=Rest.yes (w:=RBR) h2
   rw [z8 (by rw [hp];exact hb),hp]
   rfl
 | v :: w :: r,_,hg,m,k,out,q,hm,hr=>by
   obtain ⟨m,rfl⟩:∃ m',m=m' + 1:=⟨m - 1,by simp at hm;omega⟩
   rw [jb0,jb0,iH,jbz,jbz] at hr
   have hp:=hg v (jbo ..) k _ hr (kh rfl)
   have h2:Rest s (k+(fB v).length) (44 :: (32 :: (Lib.join ((w :: r).map fB) [44,32]++93 :: q))):=hr.step
   have hb:stB s (((k+(fB v).length:Nat):Int)) RBR=false:=h2.no (w:=RBR) (c:=93) (r:=[]) rfl (by decide)
   have hc:stB s (((k+(fB v).length:Nat):Int)) COMMA=true:=Rest.yes (w:=COMMA) h2
   have h3:Rest s (k+(fB v).length+2) (Lib.join ((w :: r).map fB) [44,32]++93 :: q):=Rest.step (w:=[44,32]) h2
   have ih:=rZ (d:=d) (w :: r) (by simp) (fun x hx=>hg x (jbC _ hx)) m (k+(fB v).length+2) (out++[v]) q (by simp at hm ⊢;omega) h3
   have ek:andK s ((k+(fB v).length:Nat):Int) true COMMA=((k+(fB v).length+2:Nat):Int):=by
    rw [← iu rfl,ff hc]
    show (((k+(fB v).length:Nat):Int))+2=_
    omega
   have eb:andB s ((k+(fB v).length:Nat):Int) true COMMA=true:=by rw [← iv rfl];exact hc
   rw [z7 (by rw [hp];exact hb),hp]
   show bE (valI s d) s m (andK s ((k+(fB v).length:Nat):Int) true COMMA) (andB s ((k+(fB v).length:Nat):Int) true COMMA) (out++[v])=_
   rw [ek,eb,ih,lh,jbz]
   show (out++(v :: w :: r),_,true)=_
   congr 2
   congr 1
   omega
theorem se {l:List (List D)} (hne:l ≠ []) (hh:∀ v ∈ l,Hd v) {q:List UInt8} {k:Nat} (h:Rest s k (Lib.join (l.map fB) [44,32]++q)):stB s (k:Int) RBR=false:=by
 cases l with
 | nil=>exact absurd rfl hne
 | cons v r =>
   obtain ⟨b,t,hb,hn⟩:=hh v (jbo ..)
   rw [jb0,Lib.join_cons,hb,jaZ,jaZ] at h
   exact h.no (w:=RBR) (c:=93) (r:=[]) rfl (fun e=>hn e.symm)
theorem vp {n:Nat} {l:List (List D)} (hl:l.length≤64) (hg:∀ v ∈ l,GS s n v) (hh:∀ v ∈ l,Hd v) {k:Nat} {q:List UInt8} (h:Rest s k (Lib.join (l.map fB) [44,32]++93 :: q)) :
 itmP (parF s n) s (k:Int)=(l,((k+(Lib.join (l.map fB) [44,32]).length+1:Nat):Int)):=by
 by_cases hne:l=[]
 · subst hne
   have hb:stB s (k:Int) RBR=true:=Rest.yes (w:=RBR) h
   rw [itm_1 hb]
   rfl
 · rw [itm_2 (se hne hh h),rY l hne hg 64 k [] q hl h]
   rfl
theorem vq {d:Nat} {l:List (List D)} (hg:∀ v ∈ l,GI s d v) (hh:∀ v ∈ l,Hd v) {k:Nat} {q:List UInt8} (h:Rest s k (91 :: (Lib.join (l.map fB) [44,32]++93 :: q))) (hl:l.length≤s.size+3) :
 valI s (d+1) (k:Int) true=(vLst l,((k+(Lib.join (l.map fB) [44,32]).length+2:Nat):Int),true):=by
 have hq:stB s (k:Int) QUO=false:=h.no (w:=QUO) (c:=34) (r:=[]) rfl (by decide)
 have hb:stB s (k:Int) LBR=true:=Rest.yes (w:=LBR) h
 have h2:Rest s (k+1) (Lib.join (l.map fB) [44,32]++93 :: q):=Rest.step (w:=[91]) h
 have e1:((k:Int)+1)=((k+1:Nat):Int):=by omega
 by_cases hne:l=[]
 · subst hne
   have hr:stB s ((k:Int)+1) RBR=true:=by rw [e1];exact Rest.yes (w:=RBR) h2
   rw [vI_e hq hb hr]
   rfl
 · have hr:stB s ((k:Int)+1) RBR=false:=by rw [e1];exact se hne hh h2
   rw [vI_l hq hb hr,e1,rZ l hne hg (s.size+3) (k+1) [] q hl h2]
   show (vLst ([]++l),_,_)=_
   rw [ja2]
   congr 2
   omega
end Go.Proofs.YtkpnfbdoaljkpaaGreatDoor.Ab
namespace Go.Proofs.YtkpnfbdoaljkpaaGreatDoor.Ab
open Go.RowKit
set_option linter.all false
inductive Can:List D→Prop
 | nil:Can vNil
 | num (n:Int):Can (vNum n)
 | txt (t:ByteArray):Can (vTxt t)
 | lst (l:List (List D)):(∀ r ∈ l,Can r)→Can (vLst l)
 | str (n m:Int):Can (vStr n m)
 | tbl (c:List ByteArray) (l:List (List D)):Can (vTbl (af c) (l.map aJ))
 | err (n:Int):Can (vErr n)
theorem sf (n:Int):Hd (vNum n):=by
 obtain ⟨b,r,h,hm⟩:=en n
 exact ⟨b,r,by rw [ku,h],fun e=>by rw [e] at hm;cases hm⟩
variable {s:ByteArray}
theorem ik {n:Int} {k:Nat} {q:List UInt8} (h:Rest s k (Lib.itoa n++q)) {w:ByteArray} {c:UInt8} {r:List UInt8} (hw:w.data.toList=c :: r) (hc:mdB (c.toNat:Int)=false):stB s (k:Int) w=false:=by
 obtain ⟨b,t,hb,hm⟩:=en n
 rw [hb,jaZ] at h
 exact h.no hw (sW hm hc)
theorem rC {n:Int} (hn:inR n (-1000000000) 1000000000=true) (m:Nat):GS s (m+1) (vNum n):=by
 intro k q h hq
 rw [ku] at h ⊢
 have hN:=(h.num hq hn).1
 show parP _ s (k:Int)=_
 rw [par_6 (ik h (w:=QUO) rfl rfl) (ik h (w:=LBR) rfl rfl) (ik h (w:=RNG) rfl rfl) (ik h (w:=TBO) rfl rfl) (ik h (w:=ERR) rfl rfl),hN]
theorem rD {n:Int} (hn:inR n (-1000000000) 1000000000=true):∀ d,GI s d (vNum n)
 | 0=>by
   intro k q h hq
   rw [ku] at h ⊢
   rw [vS (ik h (w:=QUO) rfl rfl),(h.num hq hn).2 true]
 | d+1=>by
   intro k q h hq
   rw [ku] at h ⊢
   rw [vI_n (ik h (w:=QUO) rfl rfl) (ik h (w:=LBR) rfl rfl),(h.num hq hn).2 true]
theorem iC {t:ByteArray} (ht:∀ b ∈ t.data.toList,((b.toNat:Int) != 34)=true) (m:Nat):GS s (m+1) (vTxt t)∧GI s m (vTxt t):=by
 have hl:(fB (vTxt t)).length=t.size+2:=by
  rw [mK,ja8,jaV,jba];rfl
 have key:∀ (k:Nat) (q:List UInt8),Rest s k (fB (vTxt t)++q)→stB s (k:Int) QUO=true∧quoP s (k:Int)=(t,((k+(fB (vTxt t)).length:Nat):Int)):=by
  intro k q h
  have h' : Rest s k (34 :: (t.data.toList++34 :: q)):=by
   rw [mK,jaZ,jbz] at h
   exact h
  have:=h'.quo ht
  refine ⟨this.1,?_⟩
  rw [this.2,hl]
  congr 2
  omega
 refine ⟨fun k q h hq=>?_,fun k q h hq=>?_⟩
 · obtain ⟨h1,h2⟩:=key k q h
   show parP _ s (k:Int)=_
   rw [par_1 h1,h2]
 · obtain ⟨h1,h2⟩:=key k q h
   rw [tv h1 (by rw [h2];show ¬ ((k+(fB (vTxt t)).length:Nat):Int) < 0;omega) m,h2]
theorem nL (l:List (List D)):(fB (vLst l)).length=(Lib.join (l.map fB) [44,32]).length+2:=by
 rw [jI,ja8,jaV];rfl
theorem o0 {l:List (List D)} {k:Nat} {q:List UInt8} (h:Rest s k (fB (vLst l)++q)):Rest s k (91 :: (Lib.join (l.map fB) [44,32]++93 :: q)):=by
 rw [jI,jaZ,jbz] at h
 exact h
theorem rN {n:Nat} {l:List (List D)} (hl:l.length≤64) (hg:∀ v ∈ l,GS s n v) (hh:∀ v ∈ l,Hd v):GS s (n+1) (vLst l):=by
 intro k q h hq
 have h:=o0 h
 have h2:Rest s (k+1) (Lib.join (l.map fB) [44,32]++93 :: q):=Rest.step (w:=[91]) h
 show parP (itmP (parF s n) s) s (k:Int)=_
 rw [par_2 (y:=((k+1:Nat):Int)) (by omega) (h.no (w:=QUO) (c:=34) (r:=[]) rfl (by decide)) (Rest.yes (w:=LBR) h),vp hl hg hh h2,nL]
 show (vLst l,_)=_
 congr 2
 omega
theorem rO {d:Nat} {l:List (List D)} (hg:∀ v ∈ l,GI s d v) (hh:∀ v ∈ l,Hd v):GI s (d+1) (vLst l):=by
 intro k q h hq
 have hs:=h.size
 have hl:l.length≤(Lib.join (l.map fB) [44,32]).length+1:=by
  have:∀ l:List (List D),l.length≤(Lib.join (l.map fB) [44,32]).length+1:=by
   intro l
   induction l with
   | nil=>exact jaU _
   | cons v r ih =>
     cases r with
     | nil=>exact Nat.le_add_left _ _
     | cons w r=>rw [lh,ja8];omega
  exact this l
 rw [jaV,nL] at hs
 rw [vq hg hh (o0 h) (by omega),nL]
 congr 2
theorem sM:∀ (m:Nat) (v:List D),Can v→okV v=true→elK v=true→depV v≤(m:Int)+1→GS s (m+1) v∧GI s (m+1) v∧Hd v:=by
 intro m
 induction m with
 | zero =>
   intro v hc ho hk hd
   cases hc with
   | nil=>cases hk
   | num n =>
     have hn:inR n (-1000000000) 1000000000=true:=okV_num ho rfl
     exact ⟨rC hn 0,rD hn 1,sf n⟩
   | txt t =>
     have ht:=okTxt_at (okV_txt ho rfl).1
     exact ⟨(iC ht 0).1,(iC ht 1).2,⟨34,_,mK t,by decide⟩⟩
   | lst l hl =>
     have hz:l=[]:=by
      refine jbq.1 ?_
      refine Classical.byContradiction fun hne=>?_
      have h1:=ly (rAt (lst (vLst l)) 0)
      have h2:=jC (F:=fun i=>depV (rAt (lst (vLst l)) i)) (n:=(lst (vLst l)).length) (i:=0) (by show 0 < l.length;omega)
      rw [dy] at hd
      omega
     subst hz
     exact ⟨rN (by decide) (fun v h=>absurd h (jaX)) (fun v h=>absurd h (jaX)),rO (fun v h=>absurd h (jaX)) (fun v h=>absurd h (jaX)),⟨91,_,jI _,by decide⟩⟩
   | str n m=>cases hk
   | tbl c l=>cases hk
   | err n=>cases hk
 | succ m ih =>
   intro v hc ho hk hd
   cases hc with
   | nil=>cases hk
   | num n =>
     have hn:inR n (-1000000000) 1000000000=true:=okV_num ho rfl
     exact ⟨rC hn _,rD hn _,sf n⟩
   | txt t =>
     have ht:=okTxt_at (okV_txt ho rfl).1
     exact ⟨(iC ht _).1,(iC ht _).2,⟨34,_,mK t,by decide⟩⟩
   | lst l hl =>
     obtain ⟨h1,h2,_⟩:=gp (okV_list ho rfl).1
     have hel:∀ r ∈ l,GS s (m+1) r∧GI s (m+1) r∧Hd r:=by
      intro r hr
      obtain ⟨i,hi,rfl⟩:=dX [] hr
      refine ih _ (hl _ hr) (h1 i hi).2 (h1 i hi).1 ?_
      have h3:=jC (F:=fun i=>depV (rAt (lst (vLst l)) i)) (n:=(lst (vLst l)).length) (i:=i) hi
      rw [dy] at hd
      have:depV (rAt (lst (vLst l)) i)≤(m:Int)+1:=by push_cast at hd;omega
      exact this
     exact ⟨rN (ja0 h2 (by decide)) (fun v h=>(hel v h).1) (fun v h=>(hel v h).2.2),rO (fun v h=>(hel v h).2.1) (fun v h=>(hel v h).2.2),⟨91,_,jI _,by decide⟩⟩
   | str n m=>cases hk
   | tbl c l=>cases hk
   | err n=>cases hk
theorem mX {par:Int→List D × Int} (h:∀ k,Can (par k).1):∀ (m:Nat) (k:Int) (out:List (List D)),(∀ r ∈ out,Can r)→∀ r ∈ (bO par s m k out).1,Can r
 | 0,_,_,_,r,hr=>absurd hr (jaX)
 | m+1,k,out,ho,r,hr=>by
   have ho' : ∀ r ∈ out++[(par k).1],Can r:=by
    intro r hr
    rcases jbt.1 hr with h2|h2
    · exact ho r h2
    · rw [jbK.1 h2];exact h k
   unfold bO at hr
   split at hr
   · exact absurd hr (jaX)
   split at hr
   · exact ho' r hr
   split at hr
   · exact absurd hr (jaX)
   · exact mX h m _ _ ho' r hr
theorem lE:∀ (n:Nat) (k:Int),Can (parF s n k).1
 | 0,_=>.nil
 | n+1,k=>by
   have itm:∀ k, ∀ r ∈ (itmP (parF s n) s k).1,Can r:=by
    intro k r hr
    unfold itmP at hr
    split at hr
    · exact absurd hr (jaX)
    · exact mX (fun k=>lE n k) 64 k [] (fun r h=>absurd h (jaX)) r hr
   show Can (parP (itmP (parF s n) s) s k).1
   unfold parP
   split
   · exact .txt _
   split
   · exact .lst _ (itm _)
   split
   · unfold strP
     repeat' split
     all_goals first
      | exact .nil
      | exact .str _ _
   split
   · unfold tabP
     repeat' split
     all_goals first
      | exact .nil
      | exact .tbl _ _
   split
   · exact .err _
   · exact .num _
theorem sU {val:Int→Bool→Rd3} (h:∀ k b,Can (val k b).1):∀ (m:Nat) (k:Int) (b:Bool) (out:List (List D)),(∀ r ∈ out,Can r)→∀ r ∈ (bE val s m k b out).1,Can r
 | 0,_,_,_,ho=>ho
 | m+1,k,b,out,ho=>by
   have ho' : ∀ r ∈ out++[(val k b).1],Can r:=by
    intro r hr
    rcases jbt.1 hr with h2|h2
    · exact ho r h2
    · rw [jbK.1 h2];exact h k b
   unfold bE
   split
   · exact ho
   split
   · exact ho'
   · exact sU h m _ _ _ ho'
theorem sT:∀ (d:Nat) (k:Int) (b:Bool),Can (valI s d k b).1
 | 0, k,b=>by
   unfold valI
   split
   · split
     · exact .nil
     · exact .txt _
   · exact .num _
 | d+1,k,b=>by
   unfold valI
   split
   · split
     · exact .nil
     · exact .txt _
   split
   · split
     · exact .lst [] (fun r h=>absurd h (jaX))
     · exact .lst _ (sU (fun k b=>sT d k b) _ _ _ [] (fun r h=>absurd h (jaX)))
   · exact .num _
theorem sS:Can (bK s).1:=by
 unfold bK
 split
 · exact .err _
 split
 · exact .str _ _
 split
 · exact .tbl _ _
 · exact sT 3 0 true
end Go.Proofs.YtkpnfbdoaljkpaaGreatDoor.Ab
namespace Go.Proofs.YtkpnfbdoaljkpaaGreatDoor.Ab
open Go.RowKit
set_option linter.all false
variable {s:ByteArray}
theorem Rest.whole {l:List UInt8} (h:s.data.toList=l):Rest s 0 l:=⟨jaU _,by rw [List.drop_zero];exact h⟩
theorem qk (h1:stB s 0 ERR=false) (h2:stB s 0 RNG=false) (h3:stB s 0 TBO=false):bK s=valI s 3 0 true:=by
 unfold bK
 rw [if_neg (by rw [h1];decide),if_neg (by rw [h2];decide),if_neg (by rw [h3];decide)]
theorem qu {v:List D} (hc:Can v) (ho:okV v=true) (hk:elK v=true) (hs:s.data.toList=fB v) {n:Nat} (hn:5≤n) :
 parF s n 0=(v,(s.size:Int))∧bK s=(v,(s.size:Int),true):=by
 have hr:Rest s 0 (fB v++[]):=Rest.whole (by rw [hs,jch])
 have hl:(fB v).length=s.size:=by rw [← hs,jba];rfl
 have hd:depV v≤3:=by
  cases hc with
  | nil=>cases hk
  | num n=>rw [dy];exact (show (0:Int)+1≤3 by decide)
  | txt t=>rw [dy];exact (show (0:Int)+1≤3 by decide)
  | lst l h=>exact (gp (okV_list ho rfl).1).2.2
  | str n m=>cases hk
  | tbl c l=>cases hk
  | err n=>cases hk
 obtain ⟨m,rfl⟩:∃ m,n=m+1:=⟨n - 1,by omega⟩
 obtain ⟨hS,_,b,r,hb,_⟩:=sM (s:=s) m v hc ho hk (by omega)
 obtain ⟨_,hI,_⟩:=sM (s:=s) 2 v hc ho hk (by omega)
 have h1:=hS 0 [] hr qV
 have h2:=hI 0 [] hr qV
 rw [jbA,hl] at h1 h2
 have hbb:b=34∨b=91∨mdB (b.toNat:Int)=true:=by
  cases hc with
  | nil=>cases hk
  | num n =>
    obtain ⟨b',r',h',hm⟩:=en n
    rw [ku,h'] at hb
    obtain ⟨rfl,_⟩:=jcg hb
    exact .inr (.inr hm)
  | txt t=>rw [mK] at hb;exact .inl (jcg hb).1.symm
  | lst l h=>rw [jI] at hb;exact .inr (.inl (jcg hb).1.symm)
  | str n m=>cases hk
  | tbl c l=>cases hk
  | err n=>cases hk
 have hno:∀ {w:ByteArray} {c:UInt8} {t:List UInt8},w.data.toList=c :: t→c ≠ 34→c ≠ 91→mdB (c.toNat:Int)=false→stB s 0 w=false:=by
  intro w c t hw c1 c2 c3
  rw [jch,hb] at hr
  refine hr.no hw ?_
  rcases hbb with rfl|rfl|h
  · exact c1
  · exact c2
  · exact sW h c3
 refine ⟨h1,?_⟩
 rw [qk (hno (w:=ERR) rfl (by decide) (by decide) rfl) (hno (w:=RNG) rfl (by decide) (by decide) rfl) (hno (w:=TBO) rfl (by decide) (by decide) rfl)]
 exact h2
theorem oX (a:Nat):decide (((a:Nat):Int) < 0)=false:=decide_eq_false (by omega)
theorem jaj (n m:Int):fB (vStr n m)=RNG.data.toList++(Lib.itoa n++(COMMA.data.toList++(Lib.itoa m++[41]))):=by
 show (fmtV (vStr n m)).data.toList=_
 rw [← fm4 (n:=n) (st:=m) (tx:=ES) (l4:=[]) (l5:=[]) (l6:=[])]
 simp [bT]
theorem vV {n m:Int} (hn:inR n (-1000000000) 1000000000=true) (hm:inR m (-1000000000) 1000000000=true) (hs:s.data.toList=fB (vStr n m)) (f:Nat) :
 parF s (f+1) 0=(vStr n m,(s.size:Int))∧bK s=(vStr n m,(s.size:Int),true):=by
 rw [jaj] at hs
 have r0:Rest s 0 (RNG.data.toList++(Lib.itoa n++(COMMA.data.toList++(Lib.itoa m++[41])))):=Rest.whole hs
 have r1:Rest s 6 (Lib.itoa n++(COMMA.data.toList++(Lib.itoa m++[41]))):=r0.step
 have n1:=r1.num (kh rfl) hn
 have r2:Rest s (6+(Lib.itoa n).length) (COMMA.data.toList++(Lib.itoa m++[41])):=r1.step
 have r3:Rest s (6+(Lib.itoa n).length+2) (Lib.itoa m++[41]):=r2.step
 have n2:=r3.num (kh rfl) hm
 have r4:Rest s (6+(Lib.itoa n).length+2+(Lib.itoa m).length) [41]:=r3.step
 have hz:=r4.size
 have s0:stB s 0 QUO=false:=r0.no (w:=QUO) (c:=34) (r:=[]) rfl (by decide)
 have s1:stB s 0 LBR=false:=r0.no (w:=LBR) (c:=91) (r:=[]) rfl (by decide)
 have s2:stB s 0 RNG=true:=r0.yes
 have sE:stB s 0 ERR=false:=r0.no (w:=ERR) (c:=101) rfl (by decide)
 have sC:stB s ((6+(Lib.itoa n).length:Nat):Int) COMMA=true:=r2.yes
 have sP:stB s ((6+(Lib.itoa n).length+2+(Lib.itoa m).length:Nat):Int) RPA=true:=Rest.yes (w:=RPA) (q:=[]) r4
 have i1:intP s 6=(n,((6+(Lib.itoa n).length:Nat):Int)):=n1.1
 have e1:(((6+(Lib.itoa n).length:Nat):Int))+2=((6+(Lib.itoa n).length+2:Nat):Int):=by omega
 have e2:(((6+(Lib.itoa n).length+2+(Lib.itoa m).length:Nat):Int))+1=(s.size:Int):=by rw [hz];simp
 refine ⟨?_,?_⟩
 · show parP _ s 0=_
   rw [par_3 (y:=6) rfl s0 s1 s2]
   rw [yI (y:=((6+(Lib.itoa n).length+2:Nat):Int)) (by rw [i1];exact e1.symm) (by rw [i1];exact oX _) (by rw [i1];exact notT sC) (by rw [n2.1];exact oX _) (by rw [n2.1];exact notT sP),i1,n2.1]
   show (vStr n m,_)=_
   rw [e2]
 · have j1:bg s 6 true=(vNum n,((6+(Lib.itoa n).length:Nat):Int),true):=n1.2 true
   have ak:andK s ((6+(Lib.itoa n).length:Nat):Int) true COMMA=((6+(Lib.itoa n).length+2:Nat):Int):=by
    rw [← iu rfl,ff sC];exact e1
   have ab:andB s ((6+(Lib.itoa n).length:Nat):Int) true COMMA=true:=by rw [← iv rfl];exact sC
   have bk:andK s ((6+(Lib.itoa n).length+2+(Lib.itoa m).length:Nat):Int) true RPA=(s.size:Int):=by
    rw [← iu rfl,ff sP];exact e2
   have bb:andB s ((6+(Lib.itoa n).length+2+(Lib.itoa m).length:Nat):Int) true RPA=true:=by rw [← iv rfl];exact sP
   unfold bK
   rw [if_neg (by rw [sE];decide),if_pos s2,j1]
   show (vStr (iAt (vNum n) 1) (iAt (bg s (andK s ((6+(Lib.itoa n).length:Nat):Int) true COMMA) (andB s ((6+(Lib.itoa n).length:Nat):Int) true COMMA)).1 1),_,_)=_
   rw [ak,ab,n2.2 true]
   show (vStr n m,andK s ((6+(Lib.itoa n).length+2+(Lib.itoa m).length:Nat):Int) true RPA,andB s ((6+(Lib.itoa n).length+2+(Lib.itoa m).length:Nat):Int) true RPA)=_
   rw [bk,bb]
theorem mL {n:Int} (h1:1≤n) (h8:n≤8):errC (errB n)=n:=by
 have:∀ k:Nat,k < 9→1≤k→errC (errB (k:Int))=(k:Int):=by decide +kernel
 have:=this n.toNat (by omega) (by omega)
 rwa [show ((n.toNat:Nat):Int)=n by omega] at this
theorem jak (n:Int):fB (vErr n)=ERR.data.toList++(errB n).data.toList:=by
 show (fmtV (vErr n)).data.toList=_
 rw [← fm6 (n:=n) (st:=0) (tx:=ES) (l4:=[]) (l5:=[]) (l6:=[])]
 simp
theorem vW {n:Int} (h1:1≤n) (h8:n≤8) (hs:s.data.toList=fB (vErr n)) (f:Nat):parF s (f+1) 0=(vErr n,(s.size:Int))∧bK s=(vErr n,(s.size:Int),true):=by
 rw [jak] at hs
 have r0:Rest s 0 (ERR.data.toList++(errB n).data.toList):=Rest.whole hs
 have r1:Rest s 6 ((errB n).data.toList):=r0.step
 have s0:stB s 0 QUO=false:=r0.no (w:=QUO) (c:=34) (r:=[]) rfl (by decide)
 have s1:stB s 0 LBR=false:=r0.no (w:=LBR) (c:=91) (r:=[]) rfl (by decide)
 have s2:stB s 0 RNG=false:=r0.no (w:=RNG) (c:=114) rfl (by decide)
 have s3:stB s 0 TBO=false:=r0.no (w:=TBO) (c:=116) rfl (by decide)
 have sE:stB s 0 ERR=true:=r0.yes
 have ht:s.extract 6 s.size=errB n:=by
  apply jcf
  apply jcc
  rw [iJ,r1.2]
 refine ⟨?_,?_⟩
 · show parP _ s 0=_
   rw [par_5 (y:=6) rfl s0 s1 s2 s3 sE,show s.extract (6:Int).toNat s.size=s.extract 6 s.size from rfl,ht,mL h1 h8]
 · unfold bK
   rw [if_pos sE,ht,sF,mL h1 h8]
end Go.Proofs.YtkpnfbdoaljkpaaGreatDoor.Ab
namespace Go.Proofs.YtkpnfbdoaljkpaaGreatDoor.Ab
open Go.RowKit
set_option linter.all false
variable {s:ByteArray}
def cm (v:List D):List D:=vLst ((lst v).map fun y=>vNum (iAt y 1))
theorem nz (v:List D):aJ (cm v)=aJ v:=by
 show [D.l (((lst v).map fun y=>vNum (iAt y 1)).map fun y=>[.i (iAt y 1)]),.l []]=_
 rw [jci]
 rfl
theorem uc (v:List D):fB (cm v)=(rowT (aJ v)).data.toList:=by
 unfold cm rowT
 rw [jI,iM]
 show 91 :: (Lib.join (((lst v).map fun y=>vNum (iAt y 1)).map fB) [44,32]++[93])=91 :: (Lib.join ((rE ((lst v).map fun y=>[D.i (iAt y 1)])).map (·.data.toList)) [44,32]++[93])
 congr 3
 unfold rE
 rw [jci,jci,jci]
 refine jco fun y _=>?_
 show fB (vNum (iAt y 1))=(aM (iAt y 1)).data.toList
 rw [ku,bT]
theorem g9 {n:Nat} {v:List D} (hn:n≤4) (h:rowOk n (aJ v)=true) (m:Nat):GS s (m+2) (cm v)∧GI s (m+1) (cm v)∧Hd (cm v):=by
 obtain ⟨h1,_,h3⟩:=ny h
 have h1:((lst v).map fun y=>[D.i (iAt y 1)]).length=n:=h1
 rw [ja5] at h1
 have hr:∀ y ∈ lst v,inR (iAt y 1) (-1000000000) 1000000000=true:=by
  intro y hy
  obtain ⟨i,hi,rfl⟩:=dX [] hy
  have:=h3 i (by show i < ((lst v).map fun y=>[D.i (iAt y 1)]).length;rw [ja5];exact hi)
  have e:rAt ((lst v).map fun y=>[D.i (iAt y 1)]) i=[D.i (iAt ((lst v).getD i []) 1)]:=by
   simp [rAt,jaY,jaS hi]
  have this:inR (iAt (rAt ((lst v).map fun y=>[D.i (iAt y 1)]) i) 0) (-1000000000) 1000000000=true:=this
  rw [e] at this
  exact this
 have hl:((lst v).map fun y=>vNum (iAt y 1)).length≤64:=by rw [ja5];omega
 have g1:∀ x ∈ (lst v).map fun y=>vNum (iAt y 1),GS s (m+1) x:=by
  intro x hx
  obtain ⟨y,hy,rfl⟩:=jbB.1 hx
  exact rC (hr y hy) m
 have g2:∀ x ∈ (lst v).map fun y=>vNum (iAt y 1),GI s m x:=by
  intro x hx
  obtain ⟨y,hy,rfl⟩:=jbB.1 hx
  exact rD (hr y hy) m
 have g3:∀ x ∈ (lst v).map fun y=>vNum (iAt y 1),Hd x:=by
  intro x hx
  obtain ⟨y,hy,rfl⟩:=jbB.1 hx
  exact sf _
 exact ⟨rN hl g1 g3,rO g2 g3,⟨91,_,jI _,by decide⟩⟩
theorem rI {t:ByteArray} (h:cD t=true):∀ b ∈ t.data.toList,b ≠ 32∧((b.toNat:Int) != 34)=true:=by
 intro b hb
 unfold cD gk at h
 rw [ja6,ja6,allB_iff] at h
 obtain ⟨i,hi,rfl⟩:=dX 0 hb
 have hl:t.data.toList.length=t.size:=jba
 have:=h.1.1 i (by omega)
 have e:bAt t i=((t.data.toList.getD i 0).toNat:Int):=by
  show ((t.data.getD i 0).toNat:Int)=_
  rw [jbX,jaY,jbW]
 unfold co letB digB at this
 rw [e] at this
 simp only [jcl,ja6,decide_eq_true_eq] at this
 refine ⟨fun h32=>?_,?_⟩
 · rw [h32] at this
   have e2:((32:UInt8).toNat:Int)=32:=rfl
   omega
 · rw [bne_iff_ne]
   omega
theorem kp {P:UInt8→Prop} (hP:P 32):∀ (ws:List (List UInt8)),(∀ w ∈ ws, ∀ b ∈ w,P b)→∀ b ∈ Lib.join ws [32],P b
 | [],_,b,hb=>by rw [Lib.join_nil] at hb;exact absurd hb (jaX)
 | [w],h,b,hb=>by rw [Lib.join_one] at hb;exact h w (jbb _) b hb
 | w :: x :: r,h,b,hb=>by
   rw [iH] at hb
   rcases jbt.1 hb with h1|h1
   · exact h w (jbo ..) b h1
   · rcases jbt.1 h1 with h2|h2
     · rw [jbK.1 h2];exact hP
     · exact kp hP (x :: r) (fun w hw=>h w (jbC _ hw)) b h2
theorem j7 {c:List ByteArray} (hne:c ≠ []) (h:∀ t ∈ c, ∀ b ∈ t.data.toList,b ≠ 32):ao (bJ c ⟨#[32]⟩)=c:=by
 unfold ao bJ
 show (aG (Lib.join (c.map (·.data.toList)) [32])).map _=c
 rw [lN (by simpa using hne) (by
  intro w hw
  obtain ⟨t,ht,rfl⟩:=jbB.1 hw
  exact h t ht),jci]
 conv=>rhs;rw [← List.map_id c]
 refine jco fun t _=>?_
 apply jcf
 apply jcc
 simp
theorem jai (c:List ByteArray) (l:List (List D)):fB (vTbl (af c) (l.map aJ))=TBO.data.toList++(34 :: ((bJ c ⟨#[32]⟩).data.toList++34 :: (COMMA.data.toList++(91 :: (Lib.join ((l.map cm).map fB) [44,32]++93 :: [41]))))):=by
 show (fmtV (vTbl (af c) (l.map aJ))).data.toList=_
 rw [← fm5 (n:=0) (st:=0) (tx:=ES) (l4:=[]) (l5:=af c) (l6:=l.map aJ),cf]
 have e:(mb (l.map aJ)).data.toList=91 :: (Lib.join ((l.map cm).map fB) [44,32]++[93]):=by
  unfold mb
  rw [iM,jci,jci,jci]
  congr 3
  refine jco fun v _=>?_
  exact (uc v).symm
 simp only [ByteArray.data_append,Array.toList_append,e]
 simp
theorem vU {c:List ByteArray} {l:List (List D)} (ho:okV (vTbl (af c) (l.map aJ))=true) (hs:s.data.toList=fB (vTbl (af c) (l.map aJ))) (f:Nat) :
 parF s (f+3) 0=(vTbl (af c) (l.map aJ),(s.size:Int))∧bK s=(vTbl (af c) (l.map aJ),(s.size:Int),true):=by
 obtain ⟨tc,t12,tr⟩:=nf (okV_tbl ho rfl).1
 have tc:eF (af c)=true:=tc
 have t12:(l.map aJ).length≤12:=t12
 have tr:∀ i,i < (l.map aJ).length→rowOk (af c).length (rAt (l.map aJ) i)=true:=tr
 obtain ⟨c1,c4,cn,_⟩:=lC tc
 rw [aR] at c1 c4 cn
 rw [ja5] at t12
 have cne:c ≠ []:=fun e=>by rw [e] at c1;exact absurd c1 (by decide)
 have cname:∀ t ∈ c,cD t=true:=by
  intro t ht
  obtain ⟨i,hi,he⟩:=jcz.1 ht
  have:=cn i hi
  have e:tAt (af c) i=t:=by
   simp [tAt,af,jaY,jaS hi,D.str,he]
  rwa [e] at this
 have hw:ao (bJ c ⟨#[32]⟩)=c:=j7 cne fun t ht b hb=>(rI (cname t ht) b hb).1
 have hq:∀ b ∈ (bJ c ⟨#[32]⟩).data.toList,((b.toNat:Int) != 34)=true:=by
  have:(bJ c ⟨#[32]⟩).data.toList=Lib.join (c.map (·.data.toList)) [32]:=by unfold bJ;simp
  rw [this]
  refine kp (P:=fun b=>((b.toNat:Int) != 34)=true) rfl _ fun w hw b hb=>?_
  obtain ⟨t,ht,rfl⟩:=jbB.1 hw
  exact (rI (cname t ht) b hb).2
 have hrow:∀ v ∈ l,rowOk c.length (aJ v)=true:=by
  intro v hv
  obtain ⟨i,hi,rfl⟩:=dX [] hv
  have:=tr i (by rw [ja5];exact hi)
  have e:rAt (l.map aJ) i=aJ (l.getD i []):=by
   simp [rAt,jaY,jaS hi]
  rwa [e,aR] at this
 have gS:∀ x ∈ l.map cm,GS s (f+2) x:=by
  intro x hx
  obtain ⟨v,hv,rfl⟩:=jbB.1 hx
  exact (g9 c4 (hrow v hv) f).1
 have gI:∀ x ∈ l.map cm,GI s 1 x:=by
  intro x hx
  obtain ⟨v,hv,rfl⟩:=jbB.1 hx
  exact (g9 c4 (hrow v hv) 0).2.1
 have gH:∀ x ∈ l.map cm,Hd x:=by
  intro x hx
  obtain ⟨v,hv,rfl⟩:=jbB.1 hx
  exact (g9 (s:=s) c4 (hrow v hv) 0).2.2
 have hmap:(l.map cm).map aJ=l.map aJ:=by
  rw [jci]
  exact jco fun v _=>nz v
 rw [jai] at hs
 generalize ht:bJ c ⟨#[32]⟩=t at *
 generalize hJ:Lib.join ((l.map cm).map fB) [44,32]=J at *
 have r0:Rest s 0 (TBO.data.toList++(34 :: (t.data.toList++34 :: (COMMA.data.toList++(91 :: (J++93 :: [41])))))):=Rest.whole hs
 have r1:Rest s 6 (34 :: (t.data.toList++34 :: (COMMA.data.toList++(91 :: (J++93 :: [41]))))):=r0.step
 have q1:=r1.quo hq
 have hl:t.data.toList.length=t.size:=jba
 have r2:Rest s (6+2+t.size) (COMMA.data.toList++(91 :: (J++93 :: [41]))):=by
  have a:Rest s 7 (t.data.toList++34 :: (COMMA.data.toList++(91 :: (J++93 :: [41])))):=Rest.step (w:=[34]) r1
  have b:Rest s (7+t.data.toList.length) (34 :: (COMMA.data.toList++(91 :: (J++93 :: [41])))):=a.step
  have d:Rest s (7+t.data.toList.length+1) (COMMA.data.toList++(91 :: (J++93 :: [41]))):=Rest.step (w:=[34]) b
  rw [hl] at d
  rwa [show 6+2+t.size=7+t.size+1 by omega]
 have r3:Rest s (6+2+t.size+2) (91 :: (J++93 :: [41])):=r2.step
 have r4:Rest s (6+2+t.size+3) (J++93 :: [41]):=Rest.step (w:=[91]) r3
 have r5:Rest s (6+2+t.size+3+J.length+1) [41]:=by
  have a:Rest s (6+2+t.size+3+J.length) (93 :: [41]):=r4.step
  exact Rest.step (w:=[93]) a
 have hz:=r5.size
 have s0:stB s 0 QUO=false:=r0.no (w:=QUO) (c:=34) (r:=[]) rfl (by decide)
 have s1:stB s 0 LBR=false:=r0.no (w:=LBR) (c:=91) (r:=[]) rfl (by decide)
 have s2:stB s 0 RNG=false:=r0.no (w:=RNG) (c:=114) rfl (by decide)
 have sE:stB s 0 ERR=false:=r0.no (w:=ERR) (c:=101) rfl (by decide)
 have s3:stB s 0 TBO=true:=r0.yes
 have sL:stB s ((6+2+t.size:Nat):Int) CLB=true:=Rest.yes (w:=CLB) (q:=J++93 :: [41]) r2
 have sC:stB s ((6+2+t.size:Nat):Int) COMMA=true:=r2.yes
 have sP:stB s ((6+2+t.size+3+J.length+1:Nat):Int) RPA=true:=Rest.yes (w:=RPA) (q:=[]) r5
 have q2:quoP s 6=(t,((6+2+t.size:Nat):Int)):=q1.2
 have e1:(((6+2+t.size:Nat):Int))+3=((6+2+t.size+3:Nat):Int):=by omega
 have e2:(((6+2+t.size+3+J.length+1:Nat):Int))+1=(s.size:Int):=by rw [hz];simp
 have lS:itmP (parF s (f+2)) s ((6+2+t.size+3:Nat):Int)=(l.map cm,((6+2+t.size+3+J.length+1:Nat):Int)):=by
  have:=vp (n:=f+2) (l:=l.map cm) (by rw [ja5];omega) gS gH (k:=6+2+t.size+3) (q:=[41]) (by rw [hJ];exact r4)
  rw [hJ] at this
  exact this
 have lI:valI s 2 ((6+2+t.size+2:Nat):Int) true=(vLst (l.map cm),((6+2+t.size+3+J.length+1:Nat):Int),true):=by
  have:=vq (d:=1) (l:=l.map cm) gI gH (k:=6+2+t.size+2) (q:=[41]) (by rw [hJ];exact r3) (by
   rw [ja5]
   omega)
  rw [hJ] at this
  rw [this]
  congr 2
  omega
 refine ⟨?_,?_⟩
 · show parP (itmP (parF s (f+2)) s) s 0=_
   rw [par_4 (y:=6) rfl s0 s1 s2 s3]
   rw [tab_5 (y:=((6+2+t.size+3:Nat):Int)) (by rw [q2];exact e1.symm) (by rw [q2];exact oX _) (by rw [q2];exact notT sL) (by rw [lS];exact oX _) (by rw [lS];exact notT sP),lS,q2]
   show (vTbl (af (ao t)) ((l.map cm).map aJ),_)=_
   rw [hw,hmap,e2]
 · have v0:valI s 0 6 true=(vTxt t,((6+2+t.size:Nat):Int),true):=by
    rw [tv (k:=6) q1.1 (by rw [q2];show ¬ ((6+2+t.size:Nat):Int) < 0;omega) 0,q2]
   have ak:andK s ((6+2+t.size:Nat):Int) true COMMA=((6+2+t.size+2:Nat):Int):=by
    rw [← iu rfl,ff sC]
    show (((6+2+t.size:Nat):Int))+2=_
    omega
   have ab:andB s ((6+2+t.size:Nat):Int) true COMMA=true:=by rw [← iv rfl];exact sC
   have bk:andK s ((6+2+t.size+3+J.length+1:Nat):Int) true RPA=(s.size:Int):=by
    rw [← iu rfl,ff sP];exact e2
   have bb:andB s ((6+2+t.size+3+J.length+1:Nat):Int) true RPA=true:=by rw [← iv rfl];exact sP
   have hW:=jaP (num:=bg) (va:=fun s k b=>valI s 0 k b) (vb:=fun s k b=>valI s 2 k b) (vc:=fun s k b=>valI s 3 k b) (s:=s) (P:=6) rfl sE s2 s3
   rw [← ql,hW]
   have sq:seqR s ((fun s k b=>valI s 0 k b) s 6 true) ((fun s k b=>valI s 2 k b) s)=(vLst (l.map cm),((6+2+t.size+3+J.length+1:Nat):Int),true):=by
    show seqR s (valI s 0 6 true) (fun k b=>valI s 2 k b)=_
    rw [v0]
    show valI s 2 (andK s ((6+2+t.size:Nat):Int) true COMMA) (andB s ((6+2+t.size:Nat):Int) true COMMA)=_
    rw [ak,ab,lI]
   rw [sq]
   show (vTbl (af (ao ((valI s 0 6 true).1.getD 3 default).str)) ((l.map cm).map aJ),andK s ((6+2+t.size+3+J.length+1:Nat):Int) true RPA,andB s ((6+2+t.size+3+J.length+1:Nat):Int) true RPA)=_
   rw [bk,bb,hmap,v0]
   show (vTbl (af (ao t)) _,_,_)=_
   rw [hw]
theorem oC {v:List D} (hc:Can v) (ho:okV v=true) (hs:s.data.toList=fB v) {n:Nat} (hn:5≤n):parF s n 0=(v,(s.size:Int))∧bK s=(v,(s.size:Int),true):=by
 obtain ⟨f,rfl⟩:∃ f,n=f+3:=⟨n - 3,by omega⟩
 cases hc with
 | nil=>exact absurd (okV_kind ho) (by decide)
 | num n=>exact qu (.num n) ho rfl hs hn
 | txt t=>exact qu (.txt t) ho rfl hs hn
 | lst l h=>exact qu (.lst l h) ho rfl hs hn
 | str n m=>exact vV (okV_str ho rfl).1 (okV_str ho rfl).2 hs (f+2)
 | tbl c l=>exact vU ho hs f
 | err n=>exact vW (okV_err ho rfl).1 (okV_err ho rfl).2 hs (f+2)
theorem ru {v:List D} {e:Bool} {s:ByteArray} (h:(pvOf v e s).2=true):e=true∧okV v=true∧s.data.toList=fB v∧pvOf v e s=(v,true):=by
 unfold pvOf at h ⊢
 split at h
 · rename_i hc
   rw [if_pos hc]
   have ho:okV v=true:=by
    cases hv:okV v with
    | true=>rfl
    | false =>
      have:=hc.2.1
      rw [sA hv,bG] at this
      exact absurd this.symm hc.2.2
   have:=hc.2.1
   rw [cL ho,aF] at this
   exact ⟨hc.1,ho,by rw [← this],rfl⟩
 · cases h
theorem rv {v:List D} {e:Bool} {s:ByteArray} (h:(pvOf v e s).2=false):pvOf v e s=(vNil,false):=by
 unfold pvOf at h ⊢
 split at h
 · cases h
 · rename_i hc;rw [if_neg hc]
theorem oU {v:List D} (ho:okV v=true) (hs:s.data.toList=fB v):pvOf v true s=(v,true):=by
 have e:fmtV v=s:=by
  apply jcf
  apply jcc
  exact hs.symm
 have hne:s.toList ≠ []:=by
  intro h
  rw [← bG,aF] at h
  subst h
  have h0:fB v=[]:=hs.symm
  have h2:∃ b r,fB v=b :: r:=by
   rcases okV_kind ho with hk|hk|hk|hk|hk|hk
   all_goals
    show ∃ b r,(fmtV v).data.toList=b :: r
    rw [cr]
    unfold cy
   · rw [if_pos hk,bT];obtain ⟨b,r,h,_⟩:=en (iAt v 1);exact ⟨b,r,h⟩
   · rw [if_neg (by omega),if_pos hk];exact ⟨34,(v.getD 3 default).str.data.toList++[34],by simp⟩
   · rw [if_neg (by omega),if_neg (by omega),if_neg (by omega),if_neg (by omega),if_neg (by omega),iM];exact ⟨_,_,rfl⟩
   · rw [if_neg (by omega),if_neg (by omega),if_pos hk];simp
   · rw [if_neg (by omega),if_neg (by omega),if_neg (by omega),if_pos hk];simp
   · rw [if_neg (by omega),if_neg (by omega),if_neg (by omega),if_neg (by omega),if_pos hk];simp
  obtain ⟨b,r,h3⟩:=h2
  rw [h0] at h3
  cases h3
 unfold pvOf
 rw [if_pos ⟨rfl,by rw [cL ho,e],hne⟩]
theorem wV {n:Nat} (hn:5≤n) (s:ByteArray):pvS n s=pvI s:=by
 cases hS:(pvS n s).2 with
 | true =>
   obtain ⟨_,ho,hs,he⟩:=ru hS
   have:=(oC (lE n 0) ho hs hn).2
   unfold pvI
   rw [this]
   show pvS n s=pvOf (parF s n 0).1 (true && (s.size:Int) == (s.size:Int)) s
   rw [show (true && (s.size:Int) == (s.size:Int))=true by simp,oU ho hs]
   exact he
 | false =>
   have h1:=rv hS
   cases hI:(pvI s).2 with
   | true =>
     obtain ⟨_,ho,hs,he⟩:=ru hI
     have:=(oC sS ho hs hn).1
     have hc:pvS n s=pvOf (bK s).1 true s:=by
      unfold pvS
      rw [this]
      show pvOf (bK s).1 ((s.size:Int) == (s.size:Int)) s=_
      rw [beq_self_eq_true]
     rw [hc,oU ho hs] at hS
     cases hS
   | false =>
     have h2:=rv hI
     exact h1.trans h2.symm
end Go.Proofs.YtkpnfbdoaljkpaaGreatDoor.Ab
