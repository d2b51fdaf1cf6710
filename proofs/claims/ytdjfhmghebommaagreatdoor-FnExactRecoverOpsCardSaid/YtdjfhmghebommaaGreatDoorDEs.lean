/- A part. -/
import Derived.Test.YtdjfhmghebommaaGreatDoorDFh
namespace Go.Proofs.YtdjfhmghebommaaGreatDoor.Ab
open Go.RowKit
set_option linter.all false
section
mutual
def wD:D→Nat
 | .s x=>x.size
 | .l rows=>rows.length+aO rows
 | .i _=>0
 | .b _=>0
def wRow:List D→Nat
 | []=>0
 | d :: r=>wD d+wRow r
def aO:List (List D)→Nat
 | []=>0
 | r :: rs=>wRow r+aO rs
end
theorem cH:∀ (a b:List (List D)),aO (a++b)=aO a+aO b
 | [],b=>by simp [aO]
 | r :: rs,b=>by simp only [jbU,aO,cH rs b];omega
theorem k8 {a:List (List D)} {i:Int} (h0:0≤i) (hi:i < a.length):aO (a.take (i+1).toNat)=aO (a.take i.toNat)+wRow (a.getD i.toNat []):=by
 have e:(i+1).toNat=i.toNat+1:=by omega
 rw [e,jcN,gG h0 hi,cH]
 simp [aO]
theorem pn (a:List (List D)) (k:Nat):aO (a.take k)≤aO a:=by
 have:=cH (a.take k) (a.drop k)
 rw [List.take_append_drop] at this
 omega
theorem WfRow.str {cts:List CT} {r:List D} (h:WfRow T cts r) {j:Nat} (hj:cts[j]? = some .s):(r.getD j default).str.size≤maxLen:=by
 have hl:j < r.length:=by rw [h.1];exact (jbY.1 hj).1
 have e1:r[j]? = some (r.getD j default):=by simp [jbT,jbN hl]
 obtain ⟨x,h1,h2⟩:=(h.2 j _ _ hj e1).str'
 rw [h1]
 exact h2
theorem resI {x y:Int} (h:x=y):[CV.i .i64 x]=[CV.i .i64 y]:=by rw [h]
variable {T:Tab}
theorem nZ {a:List (List D)} {k:Nat} (hk:k < a.length):wRow (a.getD k [])≤aO a:=by
 have h1:=k8 (a:=a) (i:=(k:Int)) (by omega) (by omega)
 have h2:=pn a ((k:Int)+1).toNat
 simp only [jca] at h1
 omega
def fill (a:List (List D)) (z:List D) (k:Nat):List (List D):=a.take k++List.replicate (a.length - k) z
end
theorem qu:wD default=0:=by rfl
theorem pq:∀ (a:List D) (j:Nat),wD (a.getD j default)≤wRow a
 | [],j=>by rw [List.getD_nil,qu];exact jbP _
 | d :: r,0=>by rw [jdx];simp only [wRow];omega
 | d :: r,j+1=>by rw [jdy];have:=pq r j;simp only [wRow];omega
theorem oa (d:D):d.rows.length+aO d.rows≤wD d:=by
 cases d <;> simp [D.rows,wD,aO]
theorem cT (a:List D) (j:Nat):(a.getD j default).rows.length+aO (a.getD j default).rows≤wRow a:=jbV (oa _) (pq a j)
def allB (n:Nat) (P:Nat→Bool):Bool:=(List.range n).all P
theorem allB_iff {n:Nat} {P:Nat→Bool}:allB n P=true ↔ ∀ i,i < n→P i=true:=by
 simp [allB]
theorem bC {n i:Nat} {P:Nat→Bool} (hi:i < n) (h:P i=false):allB n P=false:=by
 cases he:allB n P with
 | false=>rfl
 | true=>rw [allB_iff.1 he i hi] at h;cases h
theorem cG {n i:Nat} {P:Nat→Bool} (h:∀ j,j < i→P j=true) (hi:¬ i < n):allB n P=true:=allB_iff.2 fun j hj=>h j (by omega)
theorem rm {n:Nat} {P Q:Nat→Bool} (h:∀ i,i < n→P i=Q i):allB n P=allB n Q:=by
 rw [jdB,allB_iff,allB_iff]
 exact ⟨fun k i hi=>(h i hi) ▸ k i hi,fun k i hi=>(h i hi).symm ▸ k i hi⟩
theorem aF {i:Nat} {P:Nat→Bool} (h:∀ j,j < i→P j=true) (hi:P i=true):∀ j,j < i+1→P j=true:=by
 intro j hj
 by_cases e:j=i
 · rw [e];exact hi
 · exact h j (by omega)
def dj (n:Nat) (P:Nat→Bool):Int:=match (List.range n).find? P with
 | some i=>(i:Int)
 | none=>-1
theorem qL {n i:Nat} {P:Nat→Bool} (hi:i < n) (h:P i=true) (hb:∀ j,j < i→P j=false):(List.range n).find? P=some i:=by
 rw [List.find?_range_eq_some]
 exact ⟨h,jdJ.2 hi,fun j hj=>by rw [hb j hj];rfl⟩
theorem lv {n i:Nat} {P:Nat→Bool} (hi:i < n) (h:P i=true) (hb:∀ j,j < i→(!P j)=true):dj n P=(i:Int):=by
 unfold dj
 rw [qL hi h (fun j hj=>by simpa using hb j hj)]
theorem gd {n:Nat} {P:Nat→Bool} (hb:∀ j,j < n→(!P j)=true):dj n P = -1:=by
 unfold dj
 have:(List.range n).find? P=none:=by
  rw [List.find?_eq_none]
  intro j hj
  have:=hb j (jdJ.1 hj)
  simpa using this
 rw [this]
theorem dz (n:Nat) (P:Nat→Bool):(dj n P = -1∧∀ j,j < n→P j=false)∨∃ i:Nat,i < n∧dj n P=(i:Int)∧P i=true∧∀ j,j < i→P j=false:=by
 unfold dj
 cases h:(List.range n).find? P with
 | none =>
   refine .inl ⟨rfl,fun j hj=>?_⟩
   have:=List.find?_eq_none.1 h j (jdJ.2 hj)
   simpa using this
 | some i =>
   rw [List.find?_range_eq_some] at h
   refine .inr ⟨i,jdJ.1 h.2.1,rfl,h.1,fun j hj=>?_⟩
   have:=h.2.2 j hj
   simpa using this
def maxB (n:Nat) (F:Nat→Int):Int:=(List.range n).foldl (fun m i=>max m (F i)) 0
theorem tj (F:Nat→Int):maxB 0 F=0:=rfl
theorem cl (n:Nat) (F:Nat→Int):maxB (n+1) F=max (maxB n F) (F n):=by
 unfold maxB
 rw [List.range_succ,List.foldl_append]
 rfl
theorem iF:∀ {n:Nat} {F G:Nat→Int},(∀ i,i < n→F i=G i)→maxB n F=maxB n G
 | 0,_,_,_=>rfl
 | n+1,F,G,h=>by rw [cl,cl,iF (n:=n) (fun i hi=>h i (by omega)),h n (by omega)]
theorem oM:∀ {n:Nat} {F:Nat→Int} {M:Int},0≤M→(∀ i,i < n→F i≤M)→maxB n F≤M
 | 0,_,_,h0,_=>h0
 | n+1,F,M,h0,h=>by rw [cl];exact Int.max_le.2 ⟨oM h0 (fun i hi=>h i (by omega)),h n (by omega)⟩
theorem fZ:∀ {n:Nat} {F:Nat→Int},0≤maxB n F
 | 0,_=>jcz _
 | n+1,F=>by rw [cl];exact Int.le_trans (fZ (n:=n)) (Int.le_max_left _ _)
theorem ko:∀ {n:Nat} {F:Nat→Int} {i:Nat},i < n→F i≤maxB n F
 | 0,_,_,h=>absurd h (jcE _)
 | n+1,F,i,h=>by
   rw [cl]
   by_cases e:i=n
   · rw [e];exact Int.le_max_right _ _
   · exact Int.le_trans (ko (n:=n) (by omega)) (Int.le_max_left _ _)
abbrev bAt (s:ByteArray) (i:Nat):Int:=((s.data.getD (Int.toNat (i:Int)) 0).toNat:Int)
def bf (b:Int):Bool:=!(decide (b < 32) || decide (b > 126) || b == 34)
def okTxt (s:ByteArray):Bool:=allB s.size (fun i=>bf (bAt s i)) && decide ((s.size:Int)≤20)
def letB (b:Int):Bool:=decide (b ≥ 97) && decide (b≤122)
def digB (b:Int):Bool:=decide (b ≥ 48) && decide (b≤57)
def cg (s:ByteArray) (i:Nat):Bool:=letB (bAt s i) || (!((i:Int) == 0) && digB (bAt s i))
def gQ (s:ByteArray):Bool:=allB s.size (cg s) && decide ((s.size:Int) > 0)
def resvB:List ByteArray:=[⟨#[108,101,116]⟩,⟨#[105,110]⟩,⟨#[105,102]⟩,⟨#[116,104,101,110]⟩,⟨#[101,108,115,101]⟩,⟨#[102,111,114]⟩,⟨#[100,111]⟩,⟨#[108,101,110]⟩,⟨#[115,117,109]⟩,⟨#[116,97,107,101]⟩,⟨#[115,107,105,112]⟩,⟨#[114,97,110,103,101]⟩,⟨#[110,116,104]⟩,⟨#[119,104,101,114,101]⟩,⟨#[107,101,101,112]⟩,⟨#[97,100,100]⟩,⟨#[103,114,111,117,112]⟩,⟨#[106,111,105,110]⟩,⟨#[99,111,108,117,109,110]⟩,⟨#[114,111,119,115]⟩,⟨#[99,108,111,99,107]⟩,⟨#[99,104,97,110,99,101]⟩,⟨#[102,105,108,101]⟩,⟨#[116,97,98,108,101]⟩]
def fb (s:ByteArray):Bool:=resvB.any fun x=>s.toList == x.toList
def cc (s:ByteArray):Bool:=gQ s && (decide ((s.size:Int)≤8) && !fb s)
abbrev tAt (rows:List (List D)) (k:Nat):ByteArray:=((rows.getD (Int.toNat (k:Int)) []).getD 0 default).str
abbrev isAt (rows:List (List D)) (s:ByteArray) (k:Nat):Bool:=(tAt rows k).toList == s.toList
def hasT (rows:List (List D)) (s:ByteArray):Bool:=!allB rows.length fun k=>!isAt rows s k
def idxT (rows:List (List D)) (s:ByteArray):Int:=dj rows.length (isAt rows s)
def kU (rows:List (List D)):Bool:=allB rows.length fun i=>!hasT (rows.take i) (tAt rows i)
def dA (rows:List (List D)):Bool:=allB rows.length (fun i=>cc (tAt rows i)) && (inR rows.length 1 4 && kU rows)
theorem nt {rows:List (List D)} {i:Nat} (hi:i < rows.length):(idxT rows (tAt rows i) == (i:Int))=!hasT (rows.take i) (tAt rows i):=by
 have hl:(rows.take i).length=i:=by rw [jb7];omega
 have hsame:∀ j,j < i→isAt (rows.take i) (tAt rows i) j=isAt rows (tAt rows i) j:=by
  intro j hj
  have:(rows.take i).getD j []=rows.getD j []:=by
   rw [jbT,jbT,List.getElem?_take_of_lt hj]
  simp only [isAt,tAt,jca,this]
 have hself:isAt rows (tAt rows i) i=true:=by simp [isAt]
 unfold hasT
 rw [hl,jcL]
 rcases dz rows.length (isAt rows (tAt rows i)) with ⟨h1,h2⟩|⟨k,hk,h1,h2,h3⟩
 · rw [h2 i hi] at hself;cases hself
 · unfold idxT
   rw [h1]
   have hki:¬ i < k:=fun h=>by rw [h3 i h] at hself;cases hself
   by_cases e:k=i
   · subst e
     rw [beq_self_eq_true]
     exact (allB_iff.2 fun j hj=>by rw [hsame j hj,h3 j hj];rfl).symm
   · rw [bC (i:=k) (by omega) (by rw [hsame k (by omega),h2];rfl)]
     rw [beq_eq_false_iff_ne]
     omega
abbrev iAt (r:List D) (j:Nat):Int:=(r.getD j default).int
def befO (a b:List D):Bool:=decide (iAt a 0 < iAt b 0) || (iAt a 0 == iAt b 0 && decide (iAt a 1 < iAt b 1))
abbrev rAt (l:List (List D)) (i:Nat):List D:=l.getD (Int.toNat (i:Int)) []
def ascB (l:List (List D)) (i:Nat):Bool:=!(decide (iAt (rAt l i) 0 < 0) || decide (iAt (rAt l i) 1 < 0) || (decide ((i:Int) > 0) && !befO (rAt l (i - 1)) (rAt l i)))
def kX (l:List (List D)):Bool:=allB l.length (ascB l)
def kf (l:List (List D)):Bool:=allB l.length fun k=>inR (iAt (rAt l k) 0) (-1000000000) 1000000000
def rowOk (n:Nat) (r:List D):Bool:=((((r.getD 0 default).rows.length:Int) == (n:Int)) && kX (r.getD 1 default).rows) && kf (r.getD 0 default).rows
def pK (n:Nat) (l:List (List D)):Bool:=allB l.length fun i=>rowOk n (rAt l i)
def lH (c l:List (List D)):Bool:=dA c && (decide ((l.length:Int)≤12) && pK c.length l)
abbrev lst (a:List D):List (List D):=(a.getD 4 default).rows
theorem wLst {a:List D} {k:Nat} (hk:k < (lst a).length):wRow (rAt (lst a) k) < wRow a:=by
 show wRow ((lst a).getD k []) < wRow a
 have h1:=cT a 4
 have h2:=nZ hk
 unfold lst at hk h2 ⊢
 omega
def depF:Nat→List D→Int
 | 0,_=>0
 | n+1,a=>maxB (lst a).length (fun i=>depF n (rAt (lst a) i))+1
theorem nM:∀ {n m:Nat} {a:List D},wRow a < n→wRow a < m→depF n a=depF m a
 | 0,_,_,h,_=>absurd h (jcE _)
 | _+1,0,_,_,h=>absurd h (jcE _)
 | n+1,m+1,a,h,h' => by
   unfold depF
   rw [iF fun i hi=>nM (n:=n) (m:=m) (by have:=wLst hi;omega) (by have:=wLst hi;omega)]
def depV (a:List D):Int:=depF (wRow a+1) a
theorem dF (a:List D):depV a=maxB (lst a).length (fun i=>depV (rAt (lst a) i))+1:=by
 show maxB (lst a).length (fun i=>depF (wRow a) (rAt (lst a) i))+1=_
 rw [iF fun i hi=>nM (n:=wRow a) (m:=wRow (rAt (lst a) i)+1) (wLst hi) (jcO _)]
 rfl
theorem uh:∀ (n:Nat) (a:List D),wRow a < n→depV a≤wRow a+1
 | 0,_,h=>absurd h (jcE _)
 | n+1,a,h=>by
   rw [dF]
   have:maxB (lst a).length (fun i=>depV (rAt (lst a) i))≤wRow a:=oM (by omega) fun i hi=>by
    have h1:=wLst hi
    have:=uh n (rAt (lst a) i) (by omega)
    omega
   omega
theorem ms (a:List D):1≤depV a:=by
 rw [dF]
 have:=fZ (n:=(lst a).length) (F:=fun i=>depV (rAt (lst a) i))
 omega
def elK (r:List D):Bool:=iAt r 0 == 1 || (iAt r 0 == 2 || iAt r 0 == 3)
def okStep (ok:List D→Bool) (a:List D):Bool :=
 ((iAt a 0 == 3 || (lst a).length == 0) && ((iAt a 0 == 5 || ((a.getD 5 default).rows.length == 0 && (a.getD 6 default).rows.length == 0)) && ((iAt a 0 == 2 || (a.getD 3 default).str.toList == []) && (iAt a 0 == 4 || iAt a 2 == 0)))) &&
 (if iAt a 0=1 then inR (iAt a 1) (-1000000000) 1000000000 else if iAt a 0=2 then iAt a 1 == 0 && okTxt (a.getD 3 default).str else
  if iAt a 0=3 then iAt a 1 == 0 && (allB (lst a).length (fun i=>elK (rAt (lst a) i) && ok (rAt (lst a) i)) && (decide (((lst a).length:Int)≤8) && decide (depV a≤3))) else
  if iAt a 0=4 then inR (iAt a 1) (-1000000000) 1000000000 && inR (iAt a 2) (-1000000000) 1000000000 else if iAt a 0=5 then iAt a 1 == 0 && lH (a.getD 5 default).rows (a.getD 6 default).rows else
  if iAt a 0=6 then inR (iAt a 1) 1 8 else false)
theorem okStep_congr {f g:List D→Bool} {a:List D} (h:∀ i,i < (lst a).length→f (rAt (lst a) i)=g (rAt (lst a) i)):okStep f a=okStep g a:=by
 unfold okStep
 rw [rm fun i hi=>by rw [h i hi]]
def okF:Nat→List D→Bool
 | 0,_=>false
 | n+1,a=>okStep (okF n) a
theorem okF_same:∀ {n m:Nat} {a:List D},wRow a < n→wRow a < m→okF n a=okF m a
 | 0,_,_,h,_=>absurd h (jcE _)
 | _+1,0,_,_,h=>absurd h (jcE _)
 | n+1,m+1,a,h,h' => okStep_congr fun i hi=>okF_same (n:=n) (m:=m) (by have:=wLst hi;omega) (by have:=wLst hi;omega)
def okV (a:List D):Bool:=okF (wRow a+1) a
theorem okV_eq (a:List D):okV a=okStep okV a:=okStep_congr fun i hi=>okF_same (wLst hi) (jcO _)
end Go.Proofs.YtdjfhmghebommaaGreatDoor.Ab
