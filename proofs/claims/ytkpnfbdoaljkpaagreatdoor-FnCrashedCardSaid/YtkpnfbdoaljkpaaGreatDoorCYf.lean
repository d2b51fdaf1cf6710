/- The texts of values, in plain Lean, and how long they are. No program in -/
import Derived.Test.YtkpnfbdoaljkpaaGreatDoorCYs
namespace Go.Proofs.YtkpnfbdoaljkpaaGreatDoor.Ab
open Go.RowKit
set_option linter.all false
abbrev COMMA:ByteArray:=⟨#[44,32]⟩
abbrev LBR:ByteArray:=⟨#[91]⟩
abbrev RBR:ByteArray:=⟨#[93]⟩
abbrev RPA:ByteArray:=⟨#[41]⟩
abbrev QUO:ByteArray:=⟨#[34]⟩
abbrev RNG:ByteArray:=⟨#[114,97,110,103,101,40]⟩
abbrev TBL:ByteArray:=⟨#[116,97,98,108,101,40,34]⟩
abbrev TBM:ByteArray:=⟨#[34,44,32]⟩
abbrev ERR:ByteArray:=⟨#[101,114,114,111,114,32]⟩
def brk (xs:List ByteArray):ByteArray:=LBR++bJ xs COMMA++RBR
def rE (rows:List (List D)):List ByteArray:=rows.map fun r=>aM (iAt r 0)
def rowT (r:List D):ByteArray:=brk (rE (r.getD 0 default).rows)
def mb (l:List (List D)):ByteArray:=brk (l.map rowT)
def cy (f:List D→ByteArray) (a:List D):ByteArray :=
 if iAt a 0=1 then aM (iAt a 1) else if iAt a 0=2 then QUO++(a.getD 3 default).str++QUO else
 if iAt a 0=4 then RNG++aM (iAt a 1)++COMMA++aM (iAt a 2)++RPA else
 if iAt a 0=5 then TBL++bJ (strsOf (a.getD 5 default).rows) ⟨#[32]⟩++TBM++mb (a.getD 6 default).rows++RPA else
 if iAt a 0=6 then ERR++errB (iAt a 1) else brk ((lst a).map f)
theorem rL {α β:Type} (f g:α→β) (z:α):∀ (l:List α),(∀ i,i < l.length→f (l.getD i z)=g (l.getD i z))→l.map f=l.map g
 | [],_=>rfl
 | x :: r,h=>by
   rw [jb0,jb0,show f x=g x from h 0 (by simp)]
   congr 1
   exact rL f g z r fun i hi=>h (i+1) (by simpa using hi)
theorem gv {f g:List D→ByteArray} {a:List D} (h:∀ i,i < (lst a).length→f (rAt (lst a) i)=g (rAt (lst a) i)):cy f a=cy g a:=by
 unfold cy
 rw [rL f g [] (lst a) h]
def fmtF:Nat→List D→ByteArray
 | 0,_=>⟨#[]⟩
 | n+1,a=>cy (fmtF n) a
theorem mG:∀ {n m:Nat} {a:List D},wRow a < n→wRow a < m→fmtF n a=fmtF m a
 | 0,_,_,h,_=>absurd h (jbJ _)
 | _+1,0,_,_,h=>absurd h (jbJ _)
 | n+1,m+1,a,h,h' => gv fun i hi=>mG (n:=n) (m:=m) (by have:=wLst hi;omega) (by have:=wLst hi;omega)
def fmtV (a:List D):ByteArray:=fmtF (wRow a+1) a
theorem cr (a:List D):fmtV a=cy fmtV a:=gv fun i hi=>mG (wLst hi) (jbT _)
def fmtO (a:List D):ByteArray:=if okV a then fmtV a else ⟨#[]⟩
theorem aY (a b:ByteArray):(a++b).size=a.size+b.size:=jbe
theorem cK {n:Int} (h:inR n (-1000000000) 1000000000=true):(aM n).size≤11:=by
 unfold inR at h
 rw [ja6,decide_eq_true_eq,decide_eq_true_eq] at h
 show (Lib.itoa n).toArray.size≤11
 rw [jbr]
 unfold Lib.itoa
 split
 · have:=bo 9 n.natAbs (by omega)
   rw [ja8];omega
 · have:=bo 9 n.toNat (by omega)
   omega
theorem fb {xs:List ByteArray} {M:Nat} (h:∀ x ∈ xs,x.size≤M):(brk xs).size≤xs.length * (M+2)+2:=by
 have:=cp (sep:=COMMA) h
 unfold brk
 rw [aY,aY]
 have e1:LBR.size=1:=rfl
 have e2:RBR.size=1:=rfl
 have e3:COMMA.size=2:=rfl
 rw [e3] at this
 omega
theorem okV_k {a:List D} (h:okV a=true):(if iAt a 0=1 then inR (iAt a 1) (-1000000000) 1000000000 else if iAt a 0=2 then iAt a 1 == 0 && okTxt (a.getD 3 default).str else
 if iAt a 0=3 then iAt a 1 == 0 && gq a else
 if iAt a 0=4 then inR (iAt a 1) (-1000000000) 1000000000 && inR (iAt a 2) (-1000000000) 1000000000 else if iAt a 0=5 then iAt a 1 == 0 && tblV a else
 if iAt a 0=6 then inR (iAt a 1) 1 8 else false)=true:=by
 rw [okV_eq] at h
 unfold okStep at h
 rw [ja6] at h
 exact h.2
theorem okV_p {a:List D} (h:okV a=true):(iAt a 0=3∨(lst a).length=0)∧(iAt a 0=5∨((a.getD 5 default).rows.length=0∧(a.getD 6 default).rows.length=0))∧(iAt a 0=2∨(a.getD 3 default).str.toList=[])∧(iAt a 0=4∨iAt a 2=0):=by
 rw [okV_eq] at h
 unfold okStep at h
 rw [ja6] at h
 have:=h.1
 simpa only [ja6,jcl,beq_iff_eq] using this
theorem okV_list {a:List D} (h:okV a=true) (h3:iAt a 0=3):gq a=true∧iAt a 1=0:=by
 have h:=okV_k h
 rw [h3,if_neg (by decide),if_neg (by decide),if_pos rfl,ja6,beq_iff_eq] at h
 exact ⟨h.2,h.1⟩
theorem gp {a:List D} (h:gq a=true):(∀ i,i < (lst a).length→elK (rAt (lst a) i)=true∧okV (rAt (lst a) i)=true)∧(lst a).length≤8∧depV a≤3:=by
 unfold gq at h
 rw [ja6,ja6,allB_iff,decide_eq_true_eq,decide_eq_true_eq] at h
 refine ⟨fun i hi=>?_,by omega,h.2.2⟩
 have:=h.1 i hi
 rwa [ja6] at this
theorem okV_kind {a:List D} (h:okV a=true):iAt a 0=1∨iAt a 0=2∨iAt a 0=3∨iAt a 0=4∨iAt a 0=5∨iAt a 0=6:=by
 rw [okV_eq] at h
 unfold okStep at h
 rw [ja6] at h
 refine Classical.byContradiction fun hn=>?_
 rw [if_neg (by omega),if_neg (by omega),if_neg (by omega),if_neg (by omega),if_neg (by omega),if_neg (by omega)] at h
 exact Bool.noConfusion h.2
theorem okV_num {a:List D} (h:okV a=true) (hk:iAt a 0=1):inR (iAt a 1) (-1000000000) 1000000000=true:=by
 have h:=okV_k h
 rw [if_pos hk] at h
 exact h
theorem okV_txt {a:List D} (h:okV a=true) (hk:iAt a 0=2):okTxt (a.getD 3 default).str=true∧iAt a 1=0:=by
 have h:=okV_k h
 rw [if_neg (by omega),if_pos hk,ja6,beq_iff_eq] at h
 exact ⟨h.2,h.1⟩
theorem okV_str {a:List D} (h:okV a=true) (hk:iAt a 0=4):inR (iAt a 1) (-1000000000) 1000000000=true∧inR (iAt a 2) (-1000000000) 1000000000=true:=by
 have h:=okV_k h
 rw [if_neg (by omega),if_neg (by omega),if_neg (by omega),if_pos hk,ja6] at h
 exact h
theorem okV_tbl {a:List D} (h:okV a=true) (hk:iAt a 0=5):tblV a=true∧iAt a 1=0:=by
 have h:=okV_k h
 rw [if_neg (by omega),if_neg (by omega),if_neg (by omega),if_neg (by omega),if_pos hk,ja6,beq_iff_eq] at h
 exact ⟨h.2,h.1⟩
theorem okV_err {a:List D} (h:okV a=true) (hk:iAt a 0=6):1≤iAt a 1∧iAt a 1≤8:=by
 have h:=okV_k h
 rw [if_neg (by omega),if_neg (by omega),if_neg (by omega),if_neg (by omega),if_neg (by omega),if_pos hk] at h
 unfold inR at h
 rw [ja6,decide_eq_true_eq,decide_eq_true_eq] at h
 exact h
theorem nf {a:List D} (h:tblV a=true):eF (a.getD 5 default).rows=true∧(a.getD 6 default).rows.length≤12∧∀ i,i < (a.getD 6 default).rows.length→rowOk (a.getD 5 default).rows.length (rAt (a.getD 6 default).rows i)=true:=by
 unfold tblV kE oL at h
 rw [ja6,ja6,decide_eq_true_eq,allB_iff] at h
 exact ⟨h.1,by omega,h.2.2⟩
theorem lC {c:List (List D)} (h:eF c=true):1≤c.length∧c.length≤4∧(∀ i,i < c.length→cD (tAt c i)=true)∧pY c=true:=by
 unfold eF inR at h
 rw [ja6,ja6,ja6,allB_iff,decide_eq_true_eq,decide_eq_true_eq] at h
 exact ⟨by omega,by omega,h.1,h.2.2⟩
theorem rH {s:ByteArray} (h:cD s=true):s.size≤8:=by
 unfold cD at h
 rw [ja6,ja6,decide_eq_true_eq] at h
 omega
theorem ny {n:Nat} {r:List D} (h:rowOk n r=true):(r.getD 0 default).rows.length=n∧s5 (r.getD 1 default).rows=true∧∀ k,k < (r.getD 0 default).rows.length→inR (iAt (rAt (r.getD 0 default).rows k) 0) (-1000000000) 1000000000=true:=by
 unfold rowOk km at h
 rw [ja6,ja6,allB_iff,beq_iff_eq] at h
 exact ⟨by omega,h.1.2,h.2⟩
theorem dX {α:Type} (z:α) {l:List α} {x:α} (h:x ∈ l):∃ i,i < l.length∧x=l.getD i z:=by
 obtain ⟨i,hi,rfl⟩:=jcz.1 h
 exact ⟨i,hi,by simp [jaY,jaS hi]⟩
theorem pO {l:List (List D)} (h:∀ k,k < l.length→inR (iAt (rAt l k) 0) (-1000000000) 1000000000=true):∀ x ∈ rE l,x.size≤11:=by
 intro x hx
 obtain ⟨r,hr,rfl⟩:=jbB.1 hx
 obtain ⟨i,hi,rfl⟩:=dX [] hr
 exact cK (h i hi)
theorem mc {n:Nat} {r:List D} (hn:n≤4) (h:rowOk n r=true):(rowT r).size≤54:=by
 obtain ⟨h1,_,h3⟩:=ny h
 have:=fb (pO h3)
 have hl:(rE (r.getD 0 default).rows).length=(r.getD 0 default).rows.length:=ja5 _
 unfold rowT
 rw [hl] at this
 omega
theorem ki {c l:List (List D)} (hc:c.length≤4) (hl:l.length≤12) (h:∀ i,i < l.length→rowOk c.length (rAt l i)=true):(mb l).size≤674:=by
 have:=fb (xs:=l.map rowT) (M:=54) (by
  intro x hx
  obtain ⟨r,hr,rfl⟩:=jbB.1 hx
  obtain ⟨i,hi,rfl⟩:=dX [] hr
  exact mc hc (h i hi))
 rw [ja5] at this
 unfold mb
 omega
theorem qz {c:List (List D)} {M:Nat} (h:∀ i,i < c.length→(tAt c i).size≤M):∀ x ∈ strsOf c,x.size≤M:=by
 intro x hx
 obtain ⟨r,hr,rfl⟩:=jbB.1 hx
 obtain ⟨i,hi,rfl⟩:=dX [] hr
 exact h i hi
theorem ky {c:List (List D)} (h:eF c=true):(bJ (strsOf c) ⟨#[32]⟩).size≤36:=by
 obtain ⟨_,h2,h3,_⟩:=lC h
 have:=cp (sep:=(⟨#[32]⟩:ByteArray)) (qz (M:=8) fun i hi=>rH (h3 i hi))
 have hl:(strsOf c).length=c.length:=ja5 _
 have e:(⟨#[32]⟩:ByteArray).size=1:=rfl
 rw [hl,e] at this
 omega
theorem okTxt_size {s:ByteArray} (h:okTxt s=true):s.size≤20:=by
 unfold okTxt at h
 rw [ja6,decide_eq_true_eq] at h
 omega
def elB:Nat→Nat
 | 0=>22
 | n+1=>8 * (elB n+2)+2
theorem ug (n:Nat):elB n≤elB (n+1):=by show elB n≤8 * (elB n+2)+2;omega
theorem sK:∀ (n:Nat) {a:List D},okV a=true→elK a=true→depV a≤n+1→(fmtV a).size≤elB n:=by
 intro n
 induction n with
 | zero =>
   intro a h hk hd
   have hno:(lst a).length=0:=by
    refine Classical.byContradiction fun hne=>?_
    have hp:0 < (lst a).length:=by omega
    have h1:=ly (rAt (lst a) 0)
    have h2:=jC (F:=fun i=>depV (rAt (lst a) i)) hp
    rw [dy] at hd
    omega
   rw [cr]
   unfold elK at hk
   rw [jcl,jcl,beq_iff_eq,beq_iff_eq,beq_iff_eq] at hk
   unfold cy
   rcases hk with hk|hk|hk
   · rw [if_pos hk];exact ja0 (cK (okV_num h hk)) (by decide)
   · rw [if_neg (by omega),if_pos hk,aY,aY]
     have:=okTxt_size (okV_txt h hk).1
     show 1+_+1≤22
     omega
   · rw [if_neg (by omega),if_neg (by omega),if_neg (by omega),if_neg (by omega),if_neg (by omega)]
     have:(lst a).map fmtV=[]:=by rw [List.map_eq_nil_iff];exact jbq.1 hno
     rw [this]
     decide
 | succ n ih =>
   intro a h hk hd
   rw [cr]
   unfold elK at hk
   rw [jcl,jcl,beq_iff_eq,beq_iff_eq,beq_iff_eq] at hk
   have hb:22≤elB (n+1):=by
    have:∀ m,22≤elB m:=by
     intro m
     induction m with
     | zero=>exact ja9 _
     | succ m ih=>exact ja0 ih (ug m)
    exact this _
   unfold cy
   rcases hk with hk|hk|hk
   · rw [if_pos hk];exact ja0 (cK (okV_num h hk)) (by omega)
   · rw [if_neg (by omega),if_pos hk,aY,aY]
     have:=okTxt_size (okV_txt h hk).1
     have e:QUO.size=1:=rfl
     omega
   · rw [if_neg (by omega),if_neg (by omega),if_neg (by omega),if_neg (by omega),if_neg (by omega)]
     obtain ⟨h1,h2,_⟩:=gp (okV_list h hk).1
     have:=fb (xs:=(lst a).map fmtV) (M:=elB n) (by
      intro x hx
      obtain ⟨r,hr,rfl⟩:=jbB.1 hx
      obtain ⟨i,hi,rfl⟩:=dX [] hr
      refine ih (h1 i hi).2 (h1 i hi).1 ?_
      have h3:=jC (F:=fun i=>depV (rAt (lst a) i)) hi
      rw [dy] at hd
      have:depV (rAt (lst a) i)≤(n:Int)+1:=by omega
      exact this)
     rw [ja5] at this
     have h4:(lst a).length * (elB n+2)≤8 * (elB n+2):=jbl _ h2
     show _≤8 * (elB n+2)+2
     omega
theorem su {a:List D} (h:okV a=true):(fmtV a).size≤2000:=by
 rcases okV_kind h with hk|hk|hk|hk|hk|hk
 · exact ja0 (sK 2 h (by unfold elK;rw [hk];rfl) (by
    have hz:(lst a).length=0:=by have:=(okV_p h).1;omega
    rw [dy,hz,rK]
    decide)) (by decide)
 · rw [cr]
   unfold cy
   rw [if_neg (by omega),if_pos hk,aY,aY]
   have:=okTxt_size (okV_txt h hk).1
   have e:QUO.size=1:=rfl
   omega
 · exact ja0 (sK 2 h (by unfold elK;rw [hk];rfl) (gp (okV_list h hk).1).2.2) (by decide)
 · rw [cr]
   unfold cy
   rw [if_neg (by omega),if_neg (by omega),if_pos hk]
   simp only [aY]
   have h1:=cK (okV_str h hk).1
   have h2:=cK (okV_str h hk).2
   have e1:RNG.size=6:=rfl
   have e2:COMMA.size=2:=rfl
   have e3:RPA.size=1:=rfl
   omega
 · rw [cr]
   unfold cy
   rw [if_neg (by omega),if_neg (by omega),if_neg (by omega),if_pos hk]
   simp only [aY]
   obtain ⟨h1,h2,h3⟩:=nf (okV_tbl h hk).1
   have h4:=ky h1
   have h5:=ki (lC h1).2.1 h2 h3
   have e1:TBL.size=7:=rfl
   have e2:TBM.size=3:=rfl
   have e3:RPA.size=1:=rfl
   omega
 · rw [cr]
   unfold cy
   rw [if_neg (by omega),if_neg (by omega),if_neg (by omega),if_neg (by omega),if_pos hk,aY]
   have:=eA (iAt a 1)
   have e:ERR.size=6:=rfl
   omega
theorem sw (a:List D):(fmtO a).size≤2000:=by
 unfold fmtO
 split
 · rename_i h;exact su h
 · decide
variable {T:Tab}
def spST (e:TypeId) (Sm:List (List D)→Prop) (p:List (List D)→ByteArray):FSpec where
 pre args:=∃ a:List (List D),Sm a∧args=[argS e a]
 res args:=match args with
  | [.val _ [.sl _ _ a]]=>.val false [.s (p a)]
  | _=>.none
def spGT (T:Tab) (cts:List CT) (Sm:List D→Prop) (p:List D→ByteArray):FSpec where
 pre args:=∃ a:List D,WfRow T cts a∧Sm a∧args=[argG cts a]
 res args:=match args with
  | [.val _ cs]=>.val false [.s (p (csD cs))]
  | _=>.none
def jaR (l:List (List D)):Prop:=l.length≤1099511627776∧(brk (strsOf l)).size≤1099511627776
theorem rT (xs:List ByteArray):(brk xs).size=(bJ xs COMMA).size+2:=by
 unfold brk
 rw [aY,aY]
 show 1+_+1=_
 omega
theorem jk {α:Type} (f:List D→α) {l:List (List D)} {k:Nat} (hk:k < l.length):(l.take k).map f++[f (rAt l k)]=(l.take (k+1)).map f:=by
 have:l[k]? = some (rAt l k):=by simp [rAt,jaY,jaS hk]
 rw [jbS,this,jca]
 rfl
theorem appN {f:List D→ByteArray} {l:List (List D)} {k:Nat} {x:ByteArray} (hk:k < l.length) (hx:x=f (rAt l k)):af ((l.take k).map f)++([]++[[D.s x]])=af ((l.take (k+1)).map f):=by
 rw [fq,hx,jk f hk]
theorem aR (xs:List ByteArray):(af xs).length=xs.length:=ja5 _
theorem lY {f:List (List D)→Int→Snap} {r r' : List (List D)} {a a' : Int} (h:r=r') (h2:a=a'):f r a=f r' a' := by rw [h,h2]
abbrev rF (r:List D):ByteArray:=aM (iAt r 0)
theorem tU {n k:Nat} {l:List (List D)} (hn:l.length≤4) (h:∀ k,k < l.length→inR (iAt (rAt l k) 0) (-1000000000) 1000000000=true):(brk ((l.take k).map rF)).size≤54:=by
 have:=fb (xs:=(l.take k).map rF) (M:=11) (by
  intro x hx
  obtain ⟨r,hr,rfl⟩:=jbB.1 hx
  obtain ⟨i,hi,rfl⟩:=dX [] (jcy hr)
  exact cK (h i hi))
 rw [ja5,jbc] at this
 omega
theorem tK {n k:Nat} {l:List (List D)} (hn:n≤4) (hl:l.length≤12) (h:∀ i,i < l.length→rowOk n (rAt l i)=true):(brk ((l.take k).map rowT)).size≤674:=by
 have:=fb (xs:=(l.take k).map rowT) (M:=54) (by
  intro x hx
  obtain ⟨r,hr,rfl⟩:=jbB.1 hx
  obtain ⟨i,hi,rfl⟩:=dX [] (jcy hr)
  exact mc hn (h i hi))
 rw [ja5,jbc] at this
 omega
theorem xF {l:List (List D)} {k:Nat} (h:l.length≤8):(brk ((l.take k).map fmtO)).size≤16018:=by
 have:=fb (xs:=(l.take k).map fmtO) (M:=2000) (by
  intro x hx
  obtain ⟨r,hr,rfl⟩:=jbB.1 hx
  exact sw r)
 rw [ja5,jbc] at this
 omega
theorem fT {l:List (List D)} {k:Nat} (h:¬ k < l.length):l.take k=l:=jbw (by omega)
section
variable {n st:Int} {tx:ByteArray} {l4 l5 l6:List (List D)}
theorem fm1:aM n=fmtV (val7 1 n st tx l4 l5 l6):=by rw [cr];rfl
theorem fm2:QUO++tx++QUO=fmtV (val7 2 n st tx l4 l5 l6):=by rw [cr];rfl
theorem fm3:brk (l4.map fmtV)=fmtV (val7 3 n st tx l4 l5 l6):=by rw [cr];rfl
theorem fm4:RNG++aM n++COMMA++aM st++RPA=fmtV (val7 4 n st tx l4 l5 l6):=by rw [cr];rfl
theorem fm5:TBL++bJ (strsOf l5) ⟨#[32]⟩++TBM++mb l6++RPA=fmtV (val7 5 n st tx l4 l5 l6):=by rw [cr];rfl
theorem fm6:ERR++errB n=fmtV (val7 6 n st tx l4 l5 l6):=by rw [cr];rfl
end
theorem cL {a:List D} (h:okV a=true):fmtO a=fmtV a:=by unfold fmtO;rw [h];rfl
theorem sA {a:List D} (h:okV a=false):fmtO a=⟨#[]⟩:=by unfold fmtO;rw [h];rfl
end Go.Proofs.YtkpnfbdoaljkpaaGreatDoor.Ab
