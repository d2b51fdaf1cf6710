/- A part. -/
import Derived.Test.YtdkofgjbbdbglaaGreatDoorCYs
namespace Go.Proofs.YtdkofgjbbdbglaaGreatDoor.Ab
open Go.RowKit
set_option linter.all false
abbrev COMMA:ByteArray:=⟨#[44,32]⟩
abbrev LBR:ByteArray:=⟨#[91]⟩
abbrev RBR:ByteArray:=⟨#[93]⟩
abbrev RPA:ByteArray:=⟨#[41]⟩
abbrev QUO:ByteArray:=⟨#[34]⟩
abbrev RNG:ByteArray:=⟨#[114,97,110,103,101,40]⟩
abbrev TBL:ByteArray:=⟨#[116,97,98,108,101,40,34]⟩
abbrev TBM:ByteArray:=⟨#[34,44,32]⟩
abbrev ERR:ByteArray:=⟨#[101,114,114,111,114,32]⟩
def brk (xs:List ByteArray):ByteArray:=LBR++bg xs COMMA++RBR
def tp (rows:List (List D)):List ByteArray:=rows.map fun r=>aB (iAt r 0)
def rowT (r:List D):ByteArray:=brk (tp (r.getD 0 default).rows)
def iq (l:List (List D)):ByteArray:=brk (l.map rowT)
def cA (f:List D→ByteArray) (a:List D):ByteArray :=
 if iAt a 0=1 then aB (iAt a 1) else if iAt a 0=2 then QUO++(a.getD 3 default).str++QUO else
 if iAt a 0=4 then RNG++aB (iAt a 1)++COMMA++aB (iAt a 2)++RPA else
 if iAt a 0=5 then TBL++bg (strsOf (a.getD 5 default).rows) ⟨#[32]⟩++TBM++iq (a.getD 6 default).rows++RPA else
 if iAt a 0=6 then ERR++errB (iAt a 1) else brk ((lst a).map f)
theorem tA {α β:Type} (f g:α→β) (z:α):∀ (l:List α),(∀ i,i < l.length→f (l.getD i z)=g (l.getD i z))→l.map f=l.map g
 | [],_=>rfl
 | x :: r,h=>by
   rw [jed,jed,show f x=g x from h 0 (by simp)]
   congr 1
   exact tA f g z r fun i hi=>h (i+1) (by simpa using hi)
theorem gT {f g:List D→ByteArray} {a:List D} (h:∀ i,i < (lst a).length→f (rAt (lst a) i)=g (rAt (lst a) i)):cA f a=cA g a:=by
 unfold cA
 rw [tA f g [] (lst a) h]
def fmtF:Nat→List D→ByteArray
 | 0,_=>⟨#[]⟩
 | n+1,a=>cA (fmtF n) a
theorem nD:∀ {n m:Nat} {a:List D},wRow a < n→wRow a < m→fmtF n a=fmtF m a
 | 0,_,_,h,_=>absurd h (jdW _)
 | _+1,0,_,_,h=>absurd h (jdW _)
 | n+1,m+1,a,h,h' => gT fun i hi=>nD (n:=n) (m:=m) (by have:=wLst hi;omega) (by have:=wLst hi;omega)
def fmtV (a:List D):ByteArray:=fmtF (wRow a+1) a
theorem cq (a:List D):fmtV a=cA fmtV a:=gT fun i hi=>nD (wLst hi) (jd6 _)
def fmtO (a:List D):ByteArray:=if okV a then fmtV a else ⟨#[]⟩
theorem aM (a b:ByteArray):(a++b).size=a.size+b.size:=jdr
theorem co {n:Int} (h:inR n (-1000000000) 1000000000=true):(aB n).size≤11:=by
 unfold inR at h
 rw [jdj,decide_eq_true_eq,decide_eq_true_eq] at h
 show (Lib.itoa n).toArray.size≤11
 rw [jdE]
 unfold Lib.itoa
 split
 · have:=bz 9 n.natAbs (by omega)
   rw [jdl];omega
 · have:=bz 9 n.toNat (by omega)
   omega
theorem d9 {xs:List ByteArray} {M:Nat} (h:∀ x ∈ xs,x.size≤M):(brk xs).size≤xs.length * (M+2)+2:=by
 have:=df (sep:=COMMA) h
 unfold brk
 rw [aM,aM]
 have e1:LBR.size=1:=rfl
 have e2:RBR.size=1:=rfl
 have e3:COMMA.size=2:=rfl
 rw [e3] at this
 omega
theorem okV_k {a:List D} (h:okV a=true):(if iAt a 0=1 then inR (iAt a 1) (-1000000000) 1000000000 else if iAt a 0=2 then iAt a 1 == 0 && okTxt (a.getD 3 default).str else
 if iAt a 0=3 then iAt a 1 == 0 && cz a else
 if iAt a 0=4 then inR (iAt a 1) (-1000000000) 1000000000 && inR (iAt a 2) (-1000000000) 1000000000 else if iAt a 0=5 then iAt a 1 == 0 && tblV a else
 if iAt a 0=6 then inR (iAt a 1) 1 8 else false)=true:=by
 rw [okV_eq] at h
 unfold okStep at h
 rw [jdj] at h
 exact h.2
theorem okV_p {a:List D} (h:okV a=true):(iAt a 0=3∨(lst a).length=0)∧(iAt a 0=5∨((a.getD 5 default).rows.length=0∧(a.getD 6 default).rows.length=0))∧(iAt a 0=2∨(a.getD 3 default).str.toList=[])∧(iAt a 0=4∨iAt a 2=0):=by
 rw [okV_eq] at h
 unfold okStep at h
 rw [jdj] at h
 have:=h.1
 simpa only [jdj,jey,beq_iff_eq] using this
theorem okV_list {a:List D} (h:okV a=true) (h3:iAt a 0=3):cz a=true∧iAt a 1=0:=by
 have h:=okV_k h
 rw [h3,if_neg (by decide),if_neg (by decide),if_pos rfl,jdj,beq_iff_eq] at h
 exact ⟨h.2,h.1⟩
theorem dW {a:List D} (h:cz a=true):(∀ i,i < (lst a).length→elK (rAt (lst a) i)=true∧okV (rAt (lst a) i)=true)∧(lst a).length≤8∧depV a≤3:=by
 unfold cz at h
 rw [jdj,jdj,allB_iff,decide_eq_true_eq,decide_eq_true_eq] at h
 refine ⟨fun i hi=>?_,by omega,h.2.2⟩
 have:=h.1 i hi
 rwa [jdj] at this
theorem okV_kind {a:List D} (h:okV a=true):iAt a 0=1∨iAt a 0=2∨iAt a 0=3∨iAt a 0=4∨iAt a 0=5∨iAt a 0=6:=by
 rw [okV_eq] at h
 unfold okStep at h
 rw [jdj] at h
 refine Classical.byContradiction fun hn=>?_
 rw [if_neg (by omega),if_neg (by omega),if_neg (by omega),if_neg (by omega),if_neg (by omega),if_neg (by omega)] at h
 exact Bool.noConfusion h.2
theorem okV_num {a:List D} (h:okV a=true) (hk:iAt a 0=1):inR (iAt a 1) (-1000000000) 1000000000=true:=by
 have h:=okV_k h
 rw [if_pos hk] at h
 exact h
theorem okV_txt {a:List D} (h:okV a=true) (hk:iAt a 0=2):okTxt (a.getD 3 default).str=true∧iAt a 1=0:=by
 have h:=okV_k h
 rw [if_neg (by omega),if_pos hk,jdj,beq_iff_eq] at h
 exact ⟨h.2,h.1⟩
theorem okV_str {a:List D} (h:okV a=true) (hk:iAt a 0=4):inR (iAt a 1) (-1000000000) 1000000000=true∧inR (iAt a 2) (-1000000000) 1000000000=true:=by
 have h:=okV_k h
 rw [if_neg (by omega),if_neg (by omega),if_neg (by omega),if_pos hk,jdj] at h
 exact h
theorem okV_tbl {a:List D} (h:okV a=true) (hk:iAt a 0=5):tblV a=true∧iAt a 1=0:=by
 have h:=okV_k h
 rw [if_neg (by omega),if_neg (by omega),if_neg (by omega),if_neg (by omega),if_pos hk,jdj,beq_iff_eq] at h
 exact ⟨h.2,h.1⟩
theorem okV_err {a:List D} (h:okV a=true) (hk:iAt a 0=6):1≤iAt a 1∧iAt a 1≤8:=by
 have h:=okV_k h
 rw [if_neg (by omega),if_neg (by omega),if_neg (by omega),if_neg (by omega),if_neg (by omega),if_pos hk] at h
 unfold inR at h
 rw [jdj,decide_eq_true_eq,decide_eq_true_eq] at h
 exact h
theorem lD {a:List D} (h:tblV a=true):dw (a.getD 5 default).rows=true∧(a.getD 6 default).rows.length≤12∧∀ i,i < (a.getD 6 default).rows.length→rowOk (a.getD 5 default).rows.length (rAt (a.getD 6 default).rows i)=true:=by
 unfold tblV lE pJ at h
 rw [jdj,jdj,decide_eq_true_eq,allB_iff] at h
 exact ⟨h.1,by omega,h.2.2⟩
theorem ku {c:List (List D)} (h:dw c=true):1≤c.length∧c.length≤4∧(∀ i,i < c.length→bZ (tAt c i)=true)∧kJ c=true:=by
 unfold dw inR at h
 rw [jdj,jdj,jdj,allB_iff,decide_eq_true_eq,decide_eq_true_eq] at h
 exact ⟨by omega,by omega,h.1,h.2.2⟩
theorem tu {s:ByteArray} (h:bZ s=true):s.size≤8:=by
 unfold bZ at h
 rw [jdj,jdj,decide_eq_true_eq] at h
 omega
theorem lY {n:Nat} {r:List D} (h:rowOk n r=true):(r.getD 0 default).rows.length=n∧kO (r.getD 1 default).rows=true∧∀ k,k < (r.getD 0 default).rows.length→inR (iAt (rAt (r.getD 0 default).rows k) 0) (-1000000000) 1000000000=true:=by
 unfold rowOk j7 at h
 rw [jdj,jdj,allB_iff,beq_iff_eq] at h
 exact ⟨by omega,h.1.2,h.2⟩
theorem dK {α:Type} (z:α) {l:List α} {x:α} (h:x ∈ l):∃ i,i < l.length∧x=l.getD i z:=by
 obtain ⟨i,hi,rfl⟩:=jeM.1 h
 exact ⟨i,hi,by simp [jdb,jc5 hi]⟩
theorem qT {l:List (List D)} (h:∀ k,k < l.length→inR (iAt (rAt l k) 0) (-1000000000) 1000000000=true):∀ x ∈ tp l,x.size≤11:=by
 intro x hx
 obtain ⟨r,hr,rfl⟩:=jdO.1 hx
 obtain ⟨i,hi,rfl⟩:=dK [] hr
 exact co (h i hi)
theorem mX {n:Nat} {r:List D} (hn:n≤4) (h:rowOk n r=true):(rowT r).size≤54:=by
 obtain ⟨h1,_,h3⟩:=lY h
 have:=d9 (qT h3)
 have hl:(tp (r.getD 0 default).rows).length=(r.getD 0 default).rows.length:=jdi _
 unfold rowT
 rw [hl] at this
 omega
theorem ip {c l:List (List D)} (hc:c.length≤4) (hl:l.length≤12) (h:∀ i,i < l.length→rowOk c.length (rAt l i)=true):(iq l).size≤674:=by
 have:=d9 (xs:=l.map rowT) (M:=54) (by
  intro x hx
  obtain ⟨r,hr,rfl⟩:=jdO.1 hx
  obtain ⟨i,hi,rfl⟩:=dK [] hr
  exact mX hc (h i hi))
 rw [jdi] at this
 unfold iq
 omega
theorem rN {c:List (List D)} {M:Nat} (h:∀ i,i < c.length→(tAt c i).size≤M):∀ x ∈ strsOf c,x.size≤M:=by
 intro x hx
 obtain ⟨r,hr,rfl⟩:=jdO.1 hx
 obtain ⟨i,hi,rfl⟩:=dK [] hr
 exact h i hi
theorem iF {c:List (List D)} (h:dw c=true):(bg (strsOf c) ⟨#[32]⟩).size≤36:=by
 obtain ⟨_,h2,h3,_⟩:=ku h
 have:=df (sep:=(⟨#[32]⟩:ByteArray)) (rN (M:=8) fun i hi=>tu (h3 i hi))
 have hl:(strsOf c).length=c.length:=jdi _
 have e:(⟨#[32]⟩:ByteArray).size=1:=rfl
 rw [hl,e] at this
 omega
theorem okTxt_size {s:ByteArray} (h:okTxt s=true):s.size≤20:=by
 unfold okTxt at h
 rw [jdj,decide_eq_true_eq] at h
 omega
def elB:Nat→Nat
 | 0=>22
 | n+1=>8 * (elB n+2)+2
theorem v8 (n:Nat):elB n≤elB (n+1):=by show elB n≤8 * (elB n+2)+2;omega
theorem uq:∀ (n:Nat) {a:List D},okV a=true→elK a=true→depV a≤n+1→(fmtV a).size≤elB n:=by
 intro n
 induction n with
 | zero =>
   intro a h hk hd
   have hno:(lst a).length=0:=by
    refine Classical.byContradiction fun hne=>?_
    have hp:0 < (lst a).length:=by omega
    have h1:=mz (rAt (lst a) 0)
    have h2:=kc (F:=fun i=>depV (rAt (lst a) i)) hp
    rw [dE] at hd
    omega
   rw [cq]
   unfold elK at hk
   rw [jey,jey,beq_iff_eq,beq_iff_eq,beq_iff_eq] at hk
   unfold cA
   rcases hk with hk|hk|hk
   · rw [if_pos hk];exact jdd (co (okV_num h hk)) (by decide)
   · rw [if_neg (by omega),if_pos hk,aM,aM]
     have:=okTxt_size (okV_txt h hk).1
     show 1+_+1≤22
     omega
   · rw [if_neg (by omega),if_neg (by omega),if_neg (by omega),if_neg (by omega),if_neg (by omega)]
     have:(lst a).map fmtV=[]:=by rw [List.map_eq_nil_iff];exact jdD.1 hno
     rw [this]
     decide
 | succ n ih =>
   intro a h hk hd
   rw [cq]
   unfold elK at hk
   rw [jey,jey,beq_iff_eq,beq_iff_eq,beq_iff_eq] at hk
   have hb:22≤elB (n+1):=by
    have:∀ m,22≤elB m:=by
     intro m
     induction m with
     | zero=>exact jdm _
     | succ m ih=>exact jdd ih (v8 m)
    exact this _
   unfold cA
   rcases hk with hk|hk|hk
   · rw [if_pos hk];exact jdd (co (okV_num h hk)) (by omega)
   · rw [if_neg (by omega),if_pos hk,aM,aM]
     have:=okTxt_size (okV_txt h hk).1
     have e:QUO.size=1:=rfl
     omega
   · rw [if_neg (by omega),if_neg (by omega),if_neg (by omega),if_neg (by omega),if_neg (by omega)]
     obtain ⟨h1,h2,_⟩:=dW (okV_list h hk).1
     have:=d9 (xs:=(lst a).map fmtV) (M:=elB n) (by
      intro x hx
      obtain ⟨r,hr,rfl⟩:=jdO.1 hx
      obtain ⟨i,hi,rfl⟩:=dK [] hr
      refine ih (h1 i hi).2 (h1 i hi).1 ?_
      have h3:=kc (F:=fun i=>depV (rAt (lst a) i)) hi
      rw [dE] at hd
      have:depV (rAt (lst a) i)≤(n:Int)+1:=by omega
      exact this)
     rw [jdi] at this
     have h4:(lst a).length * (elB n+2)≤8 * (elB n+2):=jdy _ h2
     show _≤8 * (elB n+2)+2
     omega
theorem nC {a:List D} (h:okV a=true):(fmtV a).size≤2000:=by
 rcases okV_kind h with hk|hk|hk|hk|hk|hk
 · exact jdd (uq 2 h (by unfold elK;rw [hk];rfl) (by
    have hz:(lst a).length=0:=by have:=(okV_p h).1;omega
    rw [dE,hz,tz]
    decide)) (by decide)
 · rw [cq]
   unfold cA
   rw [if_neg (by omega),if_pos hk,aM,aM]
   have:=okTxt_size (okV_txt h hk).1
   have e:QUO.size=1:=rfl
   omega
 · exact jdd (uq 2 h (by unfold elK;rw [hk];rfl) (dW (okV_list h hk).1).2.2) (by decide)
 · rw [cq]
   unfold cA
   rw [if_neg (by omega),if_neg (by omega),if_pos hk]
   simp only [aM]
   have h1:=co (okV_str h hk).1
   have h2:=co (okV_str h hk).2
   have e1:RNG.size=6:=rfl
   have e2:COMMA.size=2:=rfl
   have e3:RPA.size=1:=rfl
   omega
 · rw [cq]
   unfold cA
   rw [if_neg (by omega),if_neg (by omega),if_neg (by omega),if_pos hk]
   simp only [aM]
   obtain ⟨h1,h2,h3⟩:=lD (okV_tbl h hk).1
   have h4:=iF h1
   have h5:=ip (ku h1).2.1 h2 h3
   have e1:TBL.size=7:=rfl
   have e2:TBM.size=3:=rfl
   have e3:RPA.size=1:=rfl
   omega
 · rw [cq]
   unfold cA
   rw [if_neg (by omega),if_neg (by omega),if_neg (by omega),if_neg (by omega),if_pos hk,aM]
   have:=dN (iAt a 1)
   have e:ERR.size=6:=rfl
   omega
theorem ue (a:List D):(fmtO a).size≤2000:=by
 unfold fmtO
 split
 · rename_i h;exact nC h
 · decide
variable {T:Tab}
def spST (e:TypeId) (Sm:List (List D)→Prop) (p:List (List D)→ByteArray):FSpec where
 pre args:=∃ a:List (List D),Sm a∧args=[argS e a]
 res args:=match args with
  | [.val _ [.sl _ _ a]]=>.val false [.s (p a)]
  | _=>.none
def spGT (T:Tab) (cts:List CT) (Sm:List D→Prop) (p:List D→ByteArray):FSpec where
 pre args:=∃ a:List D,WfRow T cts a∧Sm a∧args=[argG cts a]
 res args:=match args with
  | [.val _ cs]=>.val false [.s (p (csD cs))]
  | _=>.none
def xX (l:List (List D)):Prop:=∃ n,n≤4∧l.length≤12∧∀ i,i < l.length→rowOk n (rAt l i)=true
def jc4 (l:List (List D)):Prop:=l.length≤1099511627776∧(brk (strsOf l)).size≤1099511627776
theorem eZ (xs:List ByteArray):(brk xs).size=(bg xs COMMA).size+2:=by
 unfold brk
 rw [aM,aM]
 show 1+_+1=_
 omega
theorem eQ {α:Type} (f:List D→α) {l:List (List D)} {k:Nat} (hk:k < l.length):(l.take k).map f++[f (rAt l k)]=(l.take (k+1)).map f:=by
 have:l[k]? = some (rAt l k):=by simp [rAt,jdb,jc5 hk]
 rw [jd5,this,jen]
 rfl
theorem appN {f:List D→ByteArray} {l:List (List D)} {k:Nat} {x:ByteArray} (hk:k < l.length) (hx:x=f (rAt l k)):ac ((l.take k).map f)++([]++[[D.s x]])=ac ((l.take (k+1)).map f):=by
 rw [fO,hx,eQ f hk]
theorem aH (xs:List ByteArray):(ac xs).length=xs.length:=jdi _
theorem ej {f:List (List D)→Int→Snap} {r r' : List (List D)} {a a' : Int} (h:r=r') (h2:a=a'):f r a=f r' a' := by rw [h,h2]
theorem kf (xs:List ByteArray):LBR++bg (strsOf (ac xs)) ⟨#[44,32]⟩++RBR=brk xs:=by rw [aS];rfl
abbrev mh (r:List D):ByteArray:=aB (iAt r 0)
theorem pX {n k:Nat} {l:List (List D)} (hn:l.length≤4) (h:∀ k,k < l.length→inR (iAt (rAt l k) 0) (-1000000000) 1000000000=true):(brk ((l.take k).map mh)).size≤54:=by
 have:=d9 (xs:=(l.take k).map mh) (M:=11) (by
  intro x hx
  obtain ⟨r,hr,rfl⟩:=jdO.1 hx
  obtain ⟨i,hi,rfl⟩:=dK [] (jeL hr)
  exact co (h i hi))
 rw [jdi,jdp] at this
 omega
theorem pM {n k:Nat} {l:List (List D)} (hn:n≤4) (hl:l.length≤12) (h:∀ i,i < l.length→rowOk n (rAt l i)=true):(brk ((l.take k).map rowT)).size≤674:=by
 have:=d9 (xs:=(l.take k).map rowT) (M:=54) (by
  intro x hx
  obtain ⟨r,hr,rfl⟩:=jdO.1 hx
  obtain ⟨i,hi,rfl⟩:=dK [] (jeL hr)
  exact mX hn (h i hi))
 rw [jdi,jdp] at this
 omega
theorem jcD {a:List D} {k:Nat} (h:okV a=true) (h3:iAt a 0=3):(brk (((lst a).take k).map fmtV)).size≤16018:=by
 obtain ⟨h1,h2,_⟩:=dW (okV_list h h3).1
 have:=d9 (xs:=((lst a).take k).map fmtV) (M:=2000) (by
  intro x hx
  obtain ⟨r,hr,rfl⟩:=jdO.1 hx
  obtain ⟨i,hi,rfl⟩:=dK [] (jeL hr)
  exact nC (h1 i hi).2)
 rw [jdi,jdp] at this
 omega
theorem zS {l:List (List D)} {k:Nat} (h:l.length≤8):(brk ((l.take k).map fmtO)).size≤16018:=by
 have:=d9 (xs:=(l.take k).map fmtO) (M:=2000) (by
  intro x hx
  obtain ⟨r,hr,rfl⟩:=jdO.1 hx
  exact ue r)
 rw [jdi,jdp] at this
 omega
theorem cB {l:List (List D)} {k:Nat} (h:¬ k < l.length):l.take k=l:=jdJ (by omega)
theorem vS {xs:List ByteArray} {sep:ByteArray} (hl:xs.length≤1099511627776) (hj:(bg xs sep).size≤1099511627776):spJoin.pre [argS 9 (ac xs),.val false [.s sep]] :=
 ⟨_,_,by rw [aH];omega,by rw [aS];omega,rfl⟩
theorem kg {f:List D→ByteArray} {l:List (List D)} {i:Nat} (hl:l.length≤100) (hb:(brk ((l.take i).map f)).size≤100000):spJoin.pre [argS 9 (ac ((l.take i).map f)),.val false [.s ⟨#[44,32]⟩]]:=by
 have hj:=eZ ((l.take i).map f)
 refine vS ?_ ?_
 · rw [jdi,jdp];omega
 · show (bg ((l.take i).map f) COMMA).size≤_
   omega
section
variable {n st:Int} {tx:ByteArray} {l4 l5 l6:List (List D)}
theorem fm1:aB n=fmtV (val7 1 n st tx l4 l5 l6):=by rw [cq];rfl
theorem fm2:QUO++tx++QUO=fmtV (val7 2 n st tx l4 l5 l6):=by rw [cq];rfl
theorem fm3:brk (l4.map fmtV)=fmtV (val7 3 n st tx l4 l5 l6):=by rw [cq];rfl
theorem fm4:RNG++aB n++COMMA++aB st++RPA=fmtV (val7 4 n st tx l4 l5 l6):=by rw [cq];rfl
theorem fm5:TBL++bg (strsOf l5) ⟨#[32]⟩++TBM++iq l6++RPA=fmtV (val7 5 n st tx l4 l5 l6):=by rw [cq];rfl
theorem fm6:ERR++errB n=fmtV (val7 6 n st tx l4 l5 l6):=by rw [cq];rfl
end
theorem cD {a:List D} (h:okV a=true):fmtO a=fmtV a:=by unfold fmtO;rw [h];rfl
theorem o7 {a:List D} (h:okV a=false):fmtO a=⟨#[]⟩:=by unfold fmtO;rw [h];rfl
end Go.Proofs.YtdkofgjbbdbglaaGreatDoor.Ab
