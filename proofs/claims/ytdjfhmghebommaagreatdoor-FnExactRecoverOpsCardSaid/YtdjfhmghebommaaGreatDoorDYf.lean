/- A part. -/
import Derived.Test.YtdjfhmghebommaaGreatDoorDYs
namespace Go.Proofs.YtdjfhmghebommaaGreatDoor.Ab
open Go.RowKit
set_option linter.all false
abbrev COMMA:ByteArray:=⟨#[44,32]⟩
abbrev LBR:ByteArray:=⟨#[91]⟩
abbrev RBR:ByteArray:=⟨#[93]⟩
abbrev RPA:ByteArray:=⟨#[41]⟩
abbrev QUO:ByteArray:=⟨#[34]⟩
abbrev RNG:ByteArray:=⟨#[114,97,110,103,101,40]⟩
abbrev TBL:ByteArray:=⟨#[116,97,98,108,101,40,34]⟩
abbrev TBM:ByteArray:=⟨#[34,44,32]⟩
abbrev ERR:ByteArray:=⟨#[101,114,114,111,114,32]⟩
def brk (xs:List ByteArray):ByteArray:=LBR++bg xs COMMA++RBR
def tf (rows:List (List D)):List ByteArray:=rows.map fun r=>aH (iAt r 0)
def rowT (r:List D):ByteArray:=brk (tf (r.getD 0 default).rows)
def iA (l:List (List D)):ByteArray:=brk (l.map rowT)
def cz (f:List D→ByteArray) (a:List D):ByteArray :=
 if iAt a 0=1 then aH (iAt a 1) else if iAt a 0=2 then QUO++(a.getD 3 default).str++QUO else
 if iAt a 0=4 then RNG++aH (iAt a 1)++COMMA++aH (iAt a 2)++RPA else
 if iAt a 0=5 then TBL++bg (strsOf (a.getD 5 default).rows) ⟨#[32]⟩++TBM++iA (a.getD 6 default).rows++RPA else
 if iAt a 0=6 then ERR++errB (iAt a 1) else brk ((lst a).map f)
theorem tl {α β:Type} (f g:α→β) (z:α):∀ (l:List α),(∀ i,i < l.length→f (l.getD i z)=g (l.getD i z))→l.map f=l.map g
 | [],_=>rfl
 | x :: r,h=>by
   rw [jcV,jcV,show f x=g x from h 0 (by simp)]
   congr 1
   exact tl f g z r fun i hi=>h (i+1) (by simpa using hi)
theorem gY {f g:List D→ByteArray} {a:List D} (h:∀ i,i < (lst a).length→f (rAt (lst a) i)=g (rAt (lst a) i)):cz f a=cz g a:=by
 unfold cz
 rw [tl f g [] (lst a) h]
def fmtF:Nat→List D→ByteArray
 | 0,_=>⟨#[]⟩
 | n+1,a=>cz (fmtF n) a
theorem nB:∀ {n m:Nat} {a:List D},wRow a < n→wRow a < m→fmtF n a=fmtF m a
 | 0,_,_,h,_=>absurd h (jcE _)
 | _+1,0,_,_,h=>absurd h (jcE _)
 | n+1,m+1,a,h,h' => gY fun i hi=>nB (n:=n) (m:=m) (by have:=wLst hi;omega) (by have:=wLst hi;omega)
def fmtV (a:List D):ByteArray:=fmtF (wRow a+1) a
theorem cq (a:List D):fmtV a=cz fmtV a:=gY fun i hi=>nB (wLst hi) (jcO _)
def fmtO (a:List D):ByteArray:=if okV a then fmtV a else ⟨#[]⟩
theorem aI (a b:ByteArray):(a++b).size=a.size+b.size:=jb9
theorem cC {n:Int} (h:inR n (-1000000000) 1000000000=true):(aH n).size≤11:=by
 unfold inR at h
 rw [jb1,decide_eq_true_eq,decide_eq_true_eq] at h
 show (Lib.itoa n).toArray.size≤11
 rw [jcm]
 unfold Lib.itoa
 split
 · have:=bR 9 n.natAbs (by omega)
   rw [jb3];omega
 · have:=bR 9 n.toNat (by omega)
   omega
theorem em {xs:List ByteArray} {M:Nat} (h:∀ x ∈ xs,x.size≤M):(brk xs).size≤xs.length * (M+2)+2:=by
 have:=ks (sep:=COMMA) h
 unfold brk
 rw [aI,aI]
 have e1:LBR.size=1:=rfl
 have e2:RBR.size=1:=rfl
 have e3:COMMA.size=2:=rfl
 rw [e3] at this
 omega
theorem okV_k {a:List D} (h:okV a=true):(if iAt a 0=1 then inR (iAt a 1) (-1000000000) 1000000000 else if iAt a 0=2 then iAt a 1 == 0 && okTxt (a.getD 3 default).str else
 if iAt a 0=3 then iAt a 1 == 0 && cx a else
 if iAt a 0=4 then inR (iAt a 1) (-1000000000) 1000000000 && inR (iAt a 2) (-1000000000) 1000000000 else if iAt a 0=5 then iAt a 1 == 0 && tblV a else
 if iAt a 0=6 then inR (iAt a 1) 1 8 else false)=true:=by
 rw [okV_eq] at h
 unfold okStep at h
 rw [jb1] at h
 exact h.2
theorem okV_p {a:List D} (h:okV a=true):(iAt a 0=3∨(lst a).length=0)∧(iAt a 0=5∨((a.getD 5 default).rows.length=0∧(a.getD 6 default).rows.length=0))∧(iAt a 0=2∨(a.getD 3 default).str.toList=[])∧(iAt a 0=4∨iAt a 2=0):=by
 rw [okV_eq] at h
 unfold okStep at h
 rw [jb1] at h
 have:=h.1
 simpa only [jb1,jdg,beq_iff_eq] using this
theorem okV_list {a:List D} (h:okV a=true) (h3:iAt a 0=3):cx a=true∧iAt a 1=0:=by
 have h:=okV_k h
 rw [h3,if_neg (by decide),if_neg (by decide),if_pos rfl,jb1,beq_iff_eq] at h
 exact ⟨h.2,h.1⟩
theorem d9 {a:List D} (h:cx a=true):(∀ i,i < (lst a).length→elK (rAt (lst a) i)=true∧okV (rAt (lst a) i)=true)∧(lst a).length≤8∧depV a≤3:=by
 unfold cx at h
 rw [jb1,jb1,allB_iff,decide_eq_true_eq,decide_eq_true_eq] at h
 refine ⟨fun i hi=>?_,by omega,h.2.2⟩
 have:=h.1 i hi
 rwa [jb1] at this
theorem okV_kind {a:List D} (h:okV a=true):iAt a 0=1∨iAt a 0=2∨iAt a 0=3∨iAt a 0=4∨iAt a 0=5∨iAt a 0=6:=by
 rw [okV_eq] at h
 unfold okStep at h
 rw [jb1] at h
 refine Classical.byContradiction fun hn=>?_
 rw [if_neg (by omega),if_neg (by omega),if_neg (by omega),if_neg (by omega),if_neg (by omega),if_neg (by omega)] at h
 exact Bool.noConfusion h.2
theorem okV_num {a:List D} (h:okV a=true) (hk:iAt a 0=1):inR (iAt a 1) (-1000000000) 1000000000=true:=by
 have h:=okV_k h
 rw [if_pos hk] at h
 exact h
theorem okV_txt {a:List D} (h:okV a=true) (hk:iAt a 0=2):okTxt (a.getD 3 default).str=true∧iAt a 1=0:=by
 have h:=okV_k h
 rw [if_neg (by omega),if_pos hk,jb1,beq_iff_eq] at h
 exact ⟨h.2,h.1⟩
theorem okV_str {a:List D} (h:okV a=true) (hk:iAt a 0=4):inR (iAt a 1) (-1000000000) 1000000000=true∧inR (iAt a 2) (-1000000000) 1000000000=true:=by
 have h:=okV_k h
 rw [if_neg (by omega),if_neg (by omega),if_neg (by omega),if_pos hk,jb1] at h
 exact h
theorem okV_tbl {a:List D} (h:okV a=true) (hk:iAt a 0=5):tblV a=true∧iAt a 1=0:=by
 have h:=okV_k h
 rw [if_neg (by omega),if_neg (by omega),if_neg (by omega),if_neg (by omega),if_pos hk,jb1,beq_iff_eq] at h
 exact ⟨h.2,h.1⟩
theorem okV_err {a:List D} (h:okV a=true) (hk:iAt a 0=6):1≤iAt a 1∧iAt a 1≤8:=by
 have h:=okV_k h
 rw [if_neg (by omega),if_neg (by omega),if_neg (by omega),if_neg (by omega),if_neg (by omega),if_pos hk] at h
 unfold inR at h
 rw [jb1,decide_eq_true_eq,decide_eq_true_eq] at h
 exact h
theorem lG {a:List D} (h:tblV a=true):dA (a.getD 5 default).rows=true∧(a.getD 6 default).rows.length≤12∧∀ i,i < (a.getD 6 default).rows.length→rowOk (a.getD 5 default).rows.length (rAt (a.getD 6 default).rows i)=true:=by
 unfold tblV lH pK at h
 rw [jb1,jb1,decide_eq_true_eq,allB_iff] at h
 exact ⟨h.1,by omega,h.2.2⟩
theorem kF {c:List (List D)} (h:dA c=true):1≤c.length∧c.length≤4∧(∀ i,i < c.length→cc (tAt c i)=true)∧kU c=true:=by
 unfold dA inR at h
 rw [jb1,jb1,jb1,allB_iff,decide_eq_true_eq,decide_eq_true_eq] at h
 exact ⟨by omega,by omega,h.1,h.2.2⟩
theorem tg {s:ByteArray} (h:cc s=true):s.size≤8:=by
 unfold cc at h
 rw [jb1,jb1,decide_eq_true_eq] at h
 omega
theorem lV {n:Nat} {r:List D} (h:rowOk n r=true):(r.getD 0 default).rows.length=n∧kX (r.getD 1 default).rows=true∧∀ k,k < (r.getD 0 default).rows.length→inR (iAt (rAt (r.getD 0 default).rows k) 0) (-1000000000) 1000000000=true:=by
 unfold rowOk kf at h
 rw [jb1,jb1,allB_iff,beq_iff_eq] at h
 exact ⟨by omega,h.1.2,h.2⟩
theorem dJ {α:Type} (z:α) {l:List α} {x:α} (h:x ∈ l):∃ i,i < l.length∧x=l.getD i z:=by
 obtain ⟨i,hi,rfl⟩:=jdu.1 h
 exact ⟨i,hi,by simp [jbT,jbN hi]⟩
theorem qT {l:List (List D)} (h:∀ k,k < l.length→inR (iAt (rAt l k) 0) (-1000000000) 1000000000=true):∀ x ∈ tf l,x.size≤11:=by
 intro x hx
 obtain ⟨r,hr,rfl⟩:=jcw.1 hx
 obtain ⟨i,hi,rfl⟩:=dJ [] hr
 exact cC (h i hi)
theorem mV {n:Nat} {r:List D} (hn:n≤4) (h:rowOk n r=true):(rowT r).size≤54:=by
 obtain ⟨h1,_,h3⟩:=lV h
 have:=em (qT h3)
 have hl:(tf (r.getD 0 default).rows).length=(r.getD 0 default).rows.length:=jb0 _
 unfold rowT
 rw [hl] at this
 omega
theorem iz {c l:List (List D)} (hc:c.length≤4) (hl:l.length≤12) (h:∀ i,i < l.length→rowOk c.length (rAt l i)=true):(iA l).size≤674:=by
 have:=em (xs:=l.map rowT) (M:=54) (by
  intro x hx
  obtain ⟨r,hr,rfl⟩:=jcw.1 hx
  obtain ⟨i,hi,rfl⟩:=dJ [] hr
  exact mV hc (h i hi))
 rw [jb0] at this
 unfold iA
 omega
theorem rJ {c:List (List D)} {M:Nat} (h:∀ i,i < c.length→(tAt c i).size≤M):∀ x ∈ strsOf c,x.size≤M:=by
 intro x hx
 obtain ⟨r,hr,rfl⟩:=jcw.1 hx
 obtain ⟨i,hi,rfl⟩:=dJ [] hr
 exact h i hi
theorem iM {c:List (List D)} (h:dA c=true):(bg (strsOf c) ⟨#[32]⟩).size≤36:=by
 obtain ⟨_,h2,h3,_⟩:=kF h
 have:=ks (sep:=(⟨#[32]⟩:ByteArray)) (rJ (M:=8) fun i hi=>tg (h3 i hi))
 have hl:(strsOf c).length=c.length:=jb0 _
 have e:(⟨#[32]⟩:ByteArray).size=1:=rfl
 rw [hl,e] at this
 omega
theorem okTxt_size {s:ByteArray} (h:okTxt s=true):s.size≤20:=by
 unfold okTxt at h
 rw [jb1,decide_eq_true_eq] at h
 omega
def elB:Nat→Nat
 | 0=>22
 | n+1=>8 * (elB n+2)+2
theorem vx (n:Nat):elB n≤elB (n+1):=by show elB n≤8 * (elB n+2)+2;omega
theorem ua:∀ (n:Nat) {a:List D},okV a=true→elK a=true→depV a≤n+1→(fmtV a).size≤elB n:=by
 intro n
 induction n with
 | zero =>
   intro a h hk hd
   have hno:(lst a).length=0:=by
    refine Classical.byContradiction fun hne=>?_
    have hp:0 < (lst a).length:=by omega
    have h1:=ms (rAt (lst a) 0)
    have h2:=ko (F:=fun i=>depV (rAt (lst a) i)) hp
    rw [dF] at hd
    omega
   rw [cq]
   unfold elK at hk
   rw [jdg,jdg,beq_iff_eq,beq_iff_eq,beq_iff_eq] at hk
   unfold cz
   rcases hk with hk|hk|hk
   · rw [if_pos hk];exact jbV (cC (okV_num h hk)) (by decide)
   · rw [if_neg (by omega),if_pos hk,aI,aI]
     have:=okTxt_size (okV_txt h hk).1
     show 1+_+1≤22
     omega
   · rw [if_neg (by omega),if_neg (by omega),if_neg (by omega),if_neg (by omega),if_neg (by omega)]
     have:(lst a).map fmtV=[]:=by rw [List.map_eq_nil_iff];exact jcl.1 hno
     rw [this]
     decide
 | succ n ih =>
   intro a h hk hd
   rw [cq]
   unfold elK at hk
   rw [jdg,jdg,beq_iff_eq,beq_iff_eq,beq_iff_eq] at hk
   have hb:22≤elB (n+1):=by
    have:∀ m,22≤elB m:=by
     intro m
     induction m with
     | zero=>exact jb4 _
     | succ m ih=>exact jbV ih (vx m)
    exact this _
   unfold cz
   rcases hk with hk|hk|hk
   · rw [if_pos hk];exact jbV (cC (okV_num h hk)) (by omega)
   · rw [if_neg (by omega),if_pos hk,aI,aI]
     have:=okTxt_size (okV_txt h hk).1
     have e:QUO.size=1:=rfl
     omega
   · rw [if_neg (by omega),if_neg (by omega),if_neg (by omega),if_neg (by omega),if_neg (by omega)]
     obtain ⟨h1,h2,_⟩:=d9 (okV_list h hk).1
     have:=em (xs:=(lst a).map fmtV) (M:=elB n) (by
      intro x hx
      obtain ⟨r,hr,rfl⟩:=jcw.1 hx
      obtain ⟨i,hi,rfl⟩:=dJ [] hr
      refine ih (h1 i hi).2 (h1 i hi).1 ?_
      have h3:=ko (F:=fun i=>depV (rAt (lst a) i)) hi
      rw [dF] at hd
      have:depV (rAt (lst a) i)≤(n:Int)+1:=by omega
      exact this)
     rw [jb0] at this
     have h4:(lst a).length * (elB n+2)≤8 * (elB n+2):=jcg _ h2
     show _≤8 * (elB n+2)+2
     omega
theorem nA {a:List D} (h:okV a=true):(fmtV a).size≤2000:=by
 rcases okV_kind h with hk|hk|hk|hk|hk|hk
 · exact jbV (ua 2 h (by unfold elK;rw [hk];rfl) (by
    have hz:(lst a).length=0:=by have:=(okV_p h).1;omega
    rw [dF,hz,tj]
    decide)) (by decide)
 · rw [cq]
   unfold cz
   rw [if_neg (by omega),if_pos hk,aI,aI]
   have:=okTxt_size (okV_txt h hk).1
   have e:QUO.size=1:=rfl
   omega
 · exact jbV (ua 2 h (by unfold elK;rw [hk];rfl) (d9 (okV_list h hk).1).2.2) (by decide)
 · rw [cq]
   unfold cz
   rw [if_neg (by omega),if_neg (by omega),if_pos hk]
   simp only [aI]
   have h1:=cC (okV_str h hk).1
   have h2:=cC (okV_str h hk).2
   have e1:RNG.size=6:=rfl
   have e2:COMMA.size=2:=rfl
   have e3:RPA.size=1:=rfl
   omega
 · rw [cq]
   unfold cz
   rw [if_neg (by omega),if_neg (by omega),if_neg (by omega),if_pos hk]
   simp only [aI]
   obtain ⟨h1,h2,h3⟩:=lG (okV_tbl h hk).1
   have h4:=iM h1
   have h5:=iz (kF h1).2.1 h2 h3
   have e1:TBL.size=7:=rfl
   have e2:TBM.size=3:=rfl
   have e3:RPA.size=1:=rfl
   omega
 · rw [cq]
   unfold cz
   rw [if_neg (by omega),if_neg (by omega),if_neg (by omega),if_neg (by omega),if_pos hk,aI]
   have:=dM (iAt a 1)
   have e:ERR.size=6:=rfl
   omega
theorem tS (a:List D):(fmtO a).size≤2000:=by
 unfold fmtO
 split
 · rename_i h;exact nA h
 · decide
variable {T:Tab}
def spST (e:TypeId) (Sm:List (List D)→Prop) (p:List (List D)→ByteArray):FSpec where
 pre args:=∃ a:List (List D),Sm a∧args=[argS e a]
 res args:=match args with
  | [.val _ [.sl _ _ a]]=>.val false [.s (p a)]
  | _=>.none
def spGT (T:Tab) (cts:List CT) (Sm:List D→Prop) (p:List D→ByteArray):FSpec where
 pre args:=∃ a:List D,WfRow T cts a∧Sm a∧args=[argG cts a]
 res args:=match args with
  | [.val _ cs]=>.val false [.s (p (csD cs))]
  | _=>.none
def wX (l:List (List D)):Prop:=∃ n,n≤4∧l.length≤12∧∀ i,i < l.length→rowOk n (rAt l i)=true
def jbM (l:List (List D)):Prop:=l.length≤1099511627776∧(brk (strsOf l)).size≤1099511627776
theorem eZ (xs:List ByteArray):(brk xs).size=(bg xs COMMA).size+2:=by
 unfold brk
 rw [aI,aI]
 show 1+_+1=_
 omega
theorem eS {α:Type} (f:List D→α) {l:List (List D)} {k:Nat} (hk:k < l.length):(l.take k).map f++[f (rAt l k)]=(l.take (k+1)).map f:=by
 have:l[k]? = some (rAt l k):=by simp [rAt,jbT,jbN hk]
 rw [jcN,this,jc5]
 rfl
theorem appN {f:List D→ByteArray} {l:List (List D)} {k:Nat} {x:ByteArray} (hk:k < l.length) (hx:x=f (rAt l k)):ae ((l.take k).map f)++([]++[[D.s x]])=ae ((l.take (k+1)).map f):=by
 rw [fK,hx,eS f hk]
theorem aB (xs:List ByteArray):(ae xs).length=xs.length:=jb0 _
theorem eA {f:List (List D)→Int→Snap} {r r' : List (List D)} {a a' : Int} (h:r=r') (h2:a=a'):f r a=f r' a' := by rw [h,h2]
theorem kq (xs:List ByteArray):LBR++bg (strsOf (ae xs)) ⟨#[44,32]⟩++RBR=brk xs:=by rw [aP];rfl
abbrev ma (r:List D):ByteArray:=aH (iAt r 0)
theorem pU {n k:Nat} {l:List (List D)} (hn:l.length≤4) (h:∀ k,k < l.length→inR (iAt (rAt l k) 0) (-1000000000) 1000000000=true):(brk ((l.take k).map ma)).size≤54:=by
 have:=em (xs:=(l.take k).map ma) (M:=11) (by
  intro x hx
  obtain ⟨r,hr,rfl⟩:=jcw.1 hx
  obtain ⟨i,hi,rfl⟩:=dJ [] (jdt hr)
  exact cC (h i hi))
 rw [jb0,jb7] at this
 omega
theorem pN {n k:Nat} {l:List (List D)} (hn:n≤4) (hl:l.length≤12) (h:∀ i,i < l.length→rowOk n (rAt l i)=true):(brk ((l.take k).map rowT)).size≤674:=by
 have:=em (xs:=(l.take k).map rowT) (M:=54) (by
  intro x hx
  obtain ⟨r,hr,rfl⟩:=jcw.1 hx
  obtain ⟨i,hi,rfl⟩:=dJ [] (jdt hr)
  exact mV hn (h i hi))
 rw [jb0,jb7] at this
 omega
theorem jbu {a:List D} {k:Nat} (h:okV a=true) (h3:iAt a 0=3):(brk (((lst a).take k).map fmtV)).size≤16018:=by
 obtain ⟨h1,h2,_⟩:=d9 (okV_list h h3).1
 have:=em (xs:=((lst a).take k).map fmtV) (M:=2000) (by
  intro x hx
  obtain ⟨r,hr,rfl⟩:=jcw.1 hx
  obtain ⟨i,hi,rfl⟩:=dJ [] (jdt hr)
  exact nA (h1 i hi).2)
 rw [jb0,jb7] at this
 omega
theorem yI {l:List (List D)} {k:Nat} (h:l.length≤8):(brk ((l.take k).map fmtO)).size≤16018:=by
 have:=em (xs:=(l.take k).map fmtO) (M:=2000) (by
  intro x hx
  obtain ⟨r,hr,rfl⟩:=jcw.1 hx
  exact tS r)
 rw [jb0,jb7] at this
 omega
theorem cA {l:List (List D)} {k:Nat} (h:¬ k < l.length):l.take k=l:=jcr (by omega)
theorem vn {xs:List ByteArray} {sep:ByteArray} (hl:xs.length≤1099511627776) (hj:(bg xs sep).size≤1099511627776):spJoin.pre [argS 9 (ae xs),.val false [.s sep]] :=
 ⟨_,_,by rw [aB];omega,by rw [aP];omega,rfl⟩
theorem kr {f:List D→ByteArray} {l:List (List D)} {i:Nat} (hl:l.length≤100) (hb:(brk ((l.take i).map f)).size≤100000):spJoin.pre [argS 9 (ae ((l.take i).map f)),.val false [.s ⟨#[44,32]⟩]]:=by
 have hj:=eZ ((l.take i).map f)
 refine vn ?_ ?_
 · rw [jb0,jb7];omega
 · show (bg ((l.take i).map f) COMMA).size≤_
   omega
section
variable {n st:Int} {tx:ByteArray} {l4 l5 l6:List (List D)}
theorem fm1:aH n=fmtV (val7 1 n st tx l4 l5 l6):=by rw [cq];rfl
theorem fm2:QUO++tx++QUO=fmtV (val7 2 n st tx l4 l5 l6):=by rw [cq];rfl
theorem fm3:brk (l4.map fmtV)=fmtV (val7 3 n st tx l4 l5 l6):=by rw [cq];rfl
theorem fm4:RNG++aH n++COMMA++aH st++RPA=fmtV (val7 4 n st tx l4 l5 l6):=by rw [cq];rfl
theorem fm5:TBL++bg (strsOf l5) ⟨#[32]⟩++TBM++iA l6++RPA=fmtV (val7 5 n st tx l4 l5 l6):=by rw [cq];rfl
theorem fm6:ERR++errB n=fmtV (val7 6 n st tx l4 l5 l6):=by rw [cq];rfl
end
theorem cE {a:List D} (h:okV a=true):fmtO a=fmtV a:=by unfold fmtO;rw [h];rfl
theorem oW {a:List D} (h:okV a=false):fmtO a=⟨#[]⟩:=by unfold fmtO;rw [h];rfl
end Go.Proofs.YtdjfhmghebommaaGreatDoor.Ab
