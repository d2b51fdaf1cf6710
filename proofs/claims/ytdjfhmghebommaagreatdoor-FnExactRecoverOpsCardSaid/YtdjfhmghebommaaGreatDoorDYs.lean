/- A part. -/
import Derived.Test.YtdjfhmghebommaaGreatDoorDEs
namespace Go.Proofs.YtdjfhmghebommaaGreatDoor.Ab
open Go.RowKit
set_option linter.all false
section
variable {T:Tab}
def spTB (p:ByteArray→Bool):FSpec where
 pre args:=∃ s:ByteArray,args=[sArg s]
 res args:=match args with
  | [.val _ [.s s]]=>.val false [.b (p s)]
  | _=>.none
def spSB (e:TypeId) (p:List (List D)→Bool):FSpec where
 pre args:=∃ a:List (List D),args=[argS e a]
 res args:=match args with
  | [.val _ [.sl _ _ a]]=>.val false [.b (p a)]
  | _=>.none
def xH (p:List (List D)→ByteArray→Bool):FSpec where
 pre args:=∃ (a:List (List D)) (s:ByteArray),args=[argS 9 a,sArg s]
 res args:=match args with
  | [.val _ [.sl _ _ a],.val _ [.s s]]=>.val false [.b (p a s)]
  | _=>.none
def rT (p:List (List D)→ByteArray→Int):FSpec where
 pre args:=∃ (a:List (List D)) (s:ByteArray),args=[argS 9 a,sArg s]
 res args:=match args with
  | [.val _ [.sl _ _ a],.val _ [.s s]]=>.val false [.i .i64 (p a s)]
  | _=>.none
def spGB (T:Tab) (cts:List CT) (Sm:List D→Prop) (p:List D→Bool):FSpec where
 pre args:=∃ a:List D,WfRow T cts a∧Sm a∧args=[argG cts a]
 res args:=match args with
  | [.val _ cs]=>.val false [.b (p (csD cs))]
  | _=>.none
def uR (T:Tab) (cts:List CT) (p:List D→List D→Bool):FSpec where
 pre args:=∃ a b:List D,WfRow T cts a∧WfRow T cts b∧args=[argG cts a,argG cts b]
 res args:=match args with
  | [.val _ cs,.val _ ds]=>.val false [.b (p (csD cs) (csD ds))]
  | _=>.none
def spGI (T:Tab) (cts:List CT) (Sm:List D→Prop) (p:List D→Int):FSpec where
 pre args:=∃ a:List D,WfRow T cts a∧Sm a∧args=[argG cts a]
 res args:=match args with
  | [.val _ cs]=>.val false [.i .i64 (p (csD cs))]
  | _=>.none
def xL:FSpec where
 pre args:=∃ x y:Int,args=[iArg x,iArg y]
 res args:=match args with
  | [.val _ [.i _ x],.val _ [.i _ y]]=>.val false [.i .i64 (max x y)]
  | _=>.none
def rO (xs:List ByteArray):FSpec where
 pre args:=args=[]
 res _:=argS 9 (ae xs)
theorem wrapN {i n:Nat} (hi:i < n) (hn:n≤maxLen):IntKind.i64.wrap ((i:Int)+1)=((i+1:Nat):Int):=by
 simp only [maxLen] at hn
 rw [IntKind.wrap_i64];omega
theorem ltN {i n:Nat} (h:decide ((i:Int) < (n:Int))=true):i < n:=by have:=jbO h;omega
theorem nltN {i n:Nat} (h:decide ((i:Int) < (n:Int))=false):¬ i < n:=by have:=jbZ h;omega
theorem nolt (P:Nat→Prop):∀ j,j < 0→P j:=fun j h=>absurd h (jcE j)
theorem jc {n i:Nat} {P:Nat→Bool} {q:Bool} (hi:i < n) (h:P i=false):[CV.b false]=[CV.b (allB n P && q)]:=by rw [bC hi h];rfl
theorem fF {n i:Nat} {P:Nat→Bool} (hi:i < n) (h:P i=false):[CV.b false]=[CV.b (allB n P)]:=by rw [bC hi h]
theorem jd {n i:Nat} {P:Nat→Bool} {q r:Bool} (h:∀ j,j < i→P j=true) (hi:¬ i < n) (hq:r=q):[CV.b r]=[CV.b (allB n P && q)]:=by rw [cG h hi,hq];rfl
theorem lk {n i:Nat} {P:Nat→Bool} (h:∀ j,j < i→P j=true) (hi:¬ i < n):[CV.b true]=[CV.b (allB n P)]:=by rw [cG h hi]
theorem jal {n i:Nat} {P:Nat→Bool} (hi:i < n) (h:P i=false):[CV.b true]=[CV.b (!allB n P)]:=by rw [bC hi h];rfl
theorem jam {n i:Nat} {P:Nat→Bool} (h:∀ j,j < i→P j=true) (hi:¬ i < n):[CV.b false]=[CV.b (!allB n P)]:=by rw [cG h hi];rfl
theorem uW {n i:Nat} {P:Nat→Bool} (hi:i < n) (h:P i=true) (hb:∀ j,j < i→(!P j)=true):[CV.i .i64 (i:Int)]=[CV.i .i64 (dj n P)]:=by rw [lv hi h hb]
theorem uV {n i:Nat} {P:Nat→Bool} (hb:∀ j,j < i→(!P j)=true) (hi:¬ i < n):[CV.i .i64 (-1)]=[CV.i .i64 (dj n P)]:=by rw [gd fun j hj=>hb j (by omega)]
theorem notT {b:Bool} (h:b=true):(!b)=false:=by rw [h];rfl
theorem notF {b:Bool} (h:b=false):(!b)=true:=by rw [h];rfl
theorem aY {b:Bool} (h:(!b)=true):b=false:=by simpa using h
theorem aA {b:Bool} (h:(!b)=false):b=true:=by simpa using h
theorem lt48 (x:Int):decide (x < 48)=!decide (x ≥ 48):=by rw [← decide_not];exact decide_eq_decide.2 (by omega)
theorem gt57 (x:Int):decide (x > 57)=!decide (x≤57):=by rw [← decide_not];exact decide_eq_decide.2 (by omega)
def gR (s:ByteArray):Bool:=allB s.size (cg s) && inR s.size 1 8
theorem ti (s:ByteArray):(gR s && !fb s)=cc s:=by
 unfold gR cc gQ inR
 have:decide ((1:Int)≤(s.size:Int))=decide ((s.size:Int) > 0):=decide_eq_decide.2 (by omega)
 rw [this]
 cases allB s.size (cg s) <;> cases decide ((s.size:Int) > 0) <;> cases decide ((s.size:Int)≤8) <;> cases fb s <;> rfl
theorem vp (xs:List ByteArray) (s:ByteArray):hasT (ae xs) s=xs.any fun x=>s.toList == x.toList:=by
 have h1:∀ k (hk:k < xs.length),tAt (ae xs) k=xs[k]:=by
  intro k hk
  simp [tAt,ae,jbT,jbN hk,D.str]
 rw [jdB]
 unfold hasT
 rw [jch, ← Bool.not_eq_true,allB_iff,List.any_eq_true]
 have hl:(ae xs).length=xs.length:=jb0 _
 rw [hl]
 constructor
 · intro h
   refine Classical.byContradiction fun hn=>h fun i hi=>?_
   have:(xs[i].toList == s.toList)=false:=by
    rw [beq_eq_false_iff_ne]
    intro he
    exact hn ⟨xs[i],jde hi,by rw [he];exact beq_self_eq_true _⟩
   simp only [isAt,h1 i hi,this,jcC]
 · rintro ⟨x,hx,he⟩ h
   obtain ⟨i,hi,rfl⟩:=jdu.1 hx
   have:=h i hi
   simp only [isAt,h1 i hi] at this
   rw [eq_of_beq he] at this
   simp at this
theorem tN (s:ByteArray):hasT (ae resvB) s=fb s:=vp resvB s
def argC (s:ByteArray):Int :=
 if (s.toList == (⟨#[99,108,111,99,107]⟩:ByteArray).toList)=true then 0 else
 if ((s.toList == (⟨#[108,101,110]⟩:ByteArray).toList) || ((s.toList == (⟨#[115,117,109]⟩:ByteArray).toList) || ((s.toList == (⟨#[114,111,119,115]⟩:ByteArray).toList) || ((s.toList == (⟨#[99,104,97,110,99,101]⟩:ByteArray).toList) || (s.toList == (⟨#[102,105,108,101]⟩:ByteArray).toList)))))=true then 1 else
 if ((s.toList == (⟨#[116,97,107,101]⟩:ByteArray).toList) || ((s.toList == (⟨#[115,107,105,112]⟩:ByteArray).toList) || ((s.toList == (⟨#[114,97,110,103,101]⟩:ByteArray).toList) || ((s.toList == (⟨#[110,116,104]⟩:ByteArray).toList) || ((s.toList == (⟨#[107,101,101,112]⟩:ByteArray).toList) || ((s.toList == (⟨#[99,111,108,117,109,110]⟩:ByteArray).toList) || (s.toList == (⟨#[116,97,98,108,101]⟩:ByteArray).toList)))))))=true then 2 else
 if ((s.toList == (⟨#[119,104,101,114,101]⟩:ByteArray).toList) || ((s.toList == (⟨#[103,114,111,117,112]⟩:ByteArray).toList) || (s.toList == (⟨#[106,111,105,110]⟩:ByteArray).toList)))=true then 3 else
 if (s.toList == (⟨#[97,100,100]⟩:ByteArray).toList)=true then 4 else -1
def v8:FSpec where
 pre args:=∃ s:ByteArray,args=[sArg s]
 res args:=match args with
  | [.val _ [.s s]]=>.val false [.i .i64 (argC s)]
  | _=>.none
def qI (s:ByteArray):Bool :=
 ((s.toList == (⟨#[108,101,116]⟩:ByteArray).toList) || ((s.toList == (⟨#[105,110]⟩:ByteArray).toList) || ((s.toList == (⟨#[105,102]⟩:ByteArray).toList) || ((s.toList == (⟨#[116,104,101,110]⟩:ByteArray).toList) || ((s.toList == (⟨#[101,108,115,101]⟩:ByteArray).toList) || ((s.toList == (⟨#[102,111,114]⟩:ByteArray).toList) || (s.toList == (⟨#[100,111]⟩:ByteArray).toList))))))) || decide (argC s ≥ 0)
theorem nj {b:Bool} {c x:Int} (hc:c ≥ 0):decide ((if b=true then c else x) ≥ 0)=(b || decide (x ≥ 0)):=by
 cases b
 · rfl
 · simp [hc]
theorem pP (s:ByteArray):qI s=fb s:=by
 unfold qI argC fb resvB
 rw [nj (by decide),nj (by decide),nj (by decide),nj (by decide),nj (by decide)]
 simp only [List.any_cons,List.any_nil,show decide ((-1:Int) ≥ 0)=false from rfl,jcB]
 ac_rfl
theorem qi {rows:List (List D)} {i:Nat} (hi:i < rows.length) (h:(idxT rows (tAt rows i) != (i:Int))=false):(!hasT (rows.take i) (tAt rows i))=true:=by
 rw [← nt hi]
 simpa [bne] using h
theorem ud {rows:List (List D)} {i:Nat} (hi:i < rows.length) (h:(idxT rows (tAt rows i) != (i:Int))=true):(!hasT (rows.take i) (tAt rows i))=false:=by
 rw [← nt hi]
 simpa [bne] using h
abbrev CO:List CT:=[.i .i64,.i .i64]
theorem kN (l:List (List D)) (i:Nat):ascB l i=!((decide (iAt (rAt l i) 0 < 0) || decide (iAt (rAt l i) 1 < 0)) || (decide ((i:Int) > 0) && !befO (rAt l (i - 1)) (rAt l i))):=rfl
theorem pd {l:List (List D)} {i:Nat} (h:decide (iAt (rAt l i) 0 < 0)=true):ascB l i=false:=by rw [kN,h];simp
theorem pc {l:List (List D)} {i:Nat} (h:decide (iAt (rAt l i) 1 < 0)=true):ascB l i=false:=by rw [kN,h];simp
theorem eD {i:Nat} {n:Nat} (h:(i:Int) > 0) (hi:i < n) (hn:n≤maxLen):IntKind.i64.wrap ((i:Int) - 1)=((i - 1:Nat):Int):=by
 simp only [maxLen] at hn
 rw [IntKind.wrap_i64];omega
theorem o9 {l:List (List D)} {i:Nat} {x:Int} (hx:x=((i - 1:Nat):Int)) (h0:decide ((i:Int) > 0)=true) (h:(!befO (l.getD x.toNat []) (rAt l i))=true):ascB l i=false:=by
 subst hx
 rw [kN,h0,show befO (rAt l (i - 1)) (rAt l i)=false from aY h]
 simp
theorem mF {l:List (List D)} {i:Nat} (h:decide (iAt (rAt l i) 0 < 0)=false) (h' : decide (iAt (rAt l i) 1 < 0)=false) (h0:decide ((i:Int) > 0)=false):ascB l i=true:=by rw [kN,h,h',h0];rfl
theorem mE {l:List (List D)} {i:Nat} {x:Int} (hx:x=((i - 1:Nat):Int)) (h:decide (iAt (rAt l i) 0 < 0)=false) (h' : decide (iAt (rAt l i) 1 < 0)=false) (hb:(!befO (l.getD x.toNat []) (rAt l i))=false):ascB l i=true:=by
 subst hx
 rw [kN,h,h',show befO (rAt l (i - 1)) (rAt l i)=true from aA hb]
 simp
def tblV (a:List D):Bool:=lH (a.getD 5 default).rows (a.getD 6 default).rows
theorem sA {n:Nat} {r:List D} (h:(((r.getD 0 default).rows.length:Int) != (n:Int))=true):rowOk n r=false:=by
 have:(((r.getD 0 default).rows.length:Int) == (n:Int))=false:=by simpa [bne] using h
 unfold rowOk;rw [this];rfl
theorem sB {n:Nat} {r:List D} (h:(((r.getD 0 default).rows.length:Int) != (n:Int))=false):(((r.getD 0 default).rows.length:Int) == (n:Int))=true:=by simpa [bne] using h
theorem j5 {n:Nat} {r:List D} (h:kX (r.getD 1 default).rows=false):rowOk n r=false:=by
 unfold rowOk;rw [h];simp
theorem sw {n:Nat} {r:List D} (h:kf (r.getD 0 default).rows=false):rowOk n r=false:=by
 unfold rowOk;rw [h];simp
theorem su {n:Nat} {r:List D} (h:(((r.getD 0 default).rows.length:Int) == (n:Int))=true) (h2:kX (r.getD 1 default).rows=true) (h3:kf (r.getD 0 default).rows=true):rowOk n r=true:=by
 unfold rowOk;rw [h,h2,h3];rfl
theorem rF {a:List D} (h:dA (a.getD 5 default).rows=false):[CV.b false]=[CV.b (tblV a)]:=by unfold tblV lH;rw [h];rfl
theorem rE {a:List D} (h:decide (((a.getD 6 default).rows.length:Int) > 12)=true):[CV.b false]=[CV.b (tblV a)]:=by
 have:decide (((a.getD 6 default).rows.length:Int)≤12)=false:=by have:=jbO h;rw [decide_eq_false_iff_not];omega
 unfold tblV lH;rw [this];simp
theorem dQ {a:List D} {i:Nat} (hi:i < (a.getD 6 default).rows.length) (h:rowOk (a.getD 5 default).rows.length (rAt (a.getD 6 default).rows i)=false):[CV.b false]=[CV.b (tblV a)]:=by
 unfold tblV lH pK;rw [bC hi h];simp
theorem rD {a:List D} {i:Nat} (h1:dA (a.getD 5 default).rows=true) (h2:decide (((a.getD 6 default).rows.length:Int) > 12)=false) (h3:∀ j,j < i→rowOk (a.getD 5 default).rows.length (rAt (a.getD 6 default).rows j)=true) (hi:¬ i < (a.getD 6 default).rows.length):[CV.b true]=[CV.b (tblV a)]:=by
 have:decide (((a.getD 6 default).rows.length:Int)≤12)=true:=by have:=jbZ h2;rw [decide_eq_true_eq];omega
 unfold tblV lH pK;rw [h1,this,cG h3 hi];rfl
abbrev WM:Nat:=1099511627776
def SmN (n:Nat) (a:List D):Prop:=wRow a < n∧wRow a≤WM
def SmM (a:List D):Prop:=wRow a≤WM
def cx (a:List D):Bool:=allB (lst a).length (fun i=>elK (rAt (lst a) i) && okV (rAt (lst a) i)) && (decide (((lst a).length:Int)≤8) && decide (depV a≤3))
theorem SmN.lst {n:Nat} {a:List D} (h:SmN (n+1) a) {i:Nat} (hi:i < (Ab.lst a).length):SmN n (rAt (Ab.lst a) i):=by
 have:=wLst hi
 exact ⟨by have:=h.1;omega,by have:=h.2;omega⟩
theorem SmM.lst {a:List D} (h:SmM a) {i:Nat} (hi:i < (Ab.lst a).length):SmM (rAt (Ab.lst a) i):=by
 have:=wLst hi
 unfold SmM at h ⊢
 omega
theorem depB {a:List D} (h:wRow a≤WM):depV a≤1099511627777:=by
 have:=uh _ a (jcO _)
 have h' : wRow a≤1099511627776:=h
 omega
theorem ye {a:List D} (h:wRow a≤WM) (i:Nat) (hi:i≤(lst a).length):0≤maxB i (fun j=>depV (rAt (lst a) j))∧maxB i (fun j=>depV (rAt (lst a) j))≤1099511627777:=by
 refine ⟨fZ,oM (by decide) fun j hj=>?_⟩
 exact depB (jbV (Nat.le_of_lt (wLst (by omega))) h)
theorem ql {a:List D} (h:wRow a≤WM):IntKind.i64.min≤depV a∧depV a≤IntKind.i64.max:=by
 have h1:IntKind.i64.min = -9223372036854775808:=by decide
 have h2:IntKind.i64.max=9223372036854775807:=by decide
 have:=depB h
 have:=ms a
 rw [h1,h2]
 omega
theorem max_T {x y:Int} (h:decide (x > y)=true):x=max x y:=by have:=jbO h;omega
theorem max_F {x y:Int} (h:decide (x > y)=false):y=max x y:=by have:=jbZ h;omega
theorem ug {a:List D} {i:Nat} (h:wRow a≤WM) (hle:i≤(lst a).length) (hi:¬ i < (lst a).length):[CV.i .i64 (IntKind.i64.wrap (maxB i (fun j=>depV (rAt (lst a) j))+1))]=[CV.i .i64 (depV a)]:=by
 have e:i=(lst a).length:=by omega
 have hb:=ye h i hle
 rw [dF, ← e]
 congr 2
 rw [IntKind.wrap_i64];omega
theorem pI {f:Int→Int→Snap} {a a' b b' : Int} (h:a=a') (h2:b=b'):f a b=f a' b' := by rw [h,h2]
theorem el_no {r:List D} (h:(!elK r)=true):(elK r && okV r)=false:=by rw [aY h];rfl
theorem wP {r:List D} (h:(!okV r)=true):(elK r && okV r)=false:=by rw [aY h];simp
theorem jbt {r:List D} (h:(!elK r)=false) (h2:(!okV r)=false):(elK r && okV r)=true:=by rw [aA h,aA h2];rfl
end
theorem wH (x y:Int) (inst:Decidable (y > x)):@ite Int (y > x) inst y x=max x y:=by split <;> omega
theorem ne_T {x y:Int} (h:(x != y)=true):(x == y)=false:=by simpa [bne] using h
theorem ne_F {x y:Int} (h:(x != y)=false):(x == y)=true:=by simpa [bne] using h
theorem jby {r:List D} (h1:(iAt r 0 != 1)=true) (h2:(iAt r 0 != 2)=true) (h3:(iAt r 0 != 3)=true):(elK r && okV r)=false:=by
 unfold elK;rw [ne_T h1,ne_T h2,ne_T h3];rfl
theorem jbx {r:List D} (h:(iAt r 0 != 1)=false):elK r=true:=by unfold elK;rw [ne_F h];rfl
theorem jbw {r:List D} (h:(iAt r 0 != 2)=false):elK r=true:=by unfold elK;rw [ne_F h];simp
theorem jbv {r:List D} (h:(iAt r 0 != 3)=false):elK r=true:=by unfold elK;rw [ne_F h];simp
theorem o0 {r:List D} (h:elK r=true) (h2:(!okV r)=false):(elK r && okV r)=true:=by rw [h,aA h2];rfl
theorem lv_no {a:List D} {i:Nat} (hi:i < (lst a).length) (h:(elK (rAt (lst a) i) && okV (rAt (lst a) i))=false):false=cx a:=by
 unfold cx;rw [bC (P:=fun i=>elK (rAt (lst a) i) && okV (rAt (lst a) i)) hi h];rfl
theorem ja0 {a:List D} (h:decide (((lst a).length:Int)≤8)=false):false=cx a:=by
 unfold cx;rw [h];simp
theorem ja1 {a:List D} {i:Nat} (hI:∀ j,j < i→(elK (rAt (lst a) j) && okV (rAt (lst a) j))=true) (hi:¬ i < (lst a).length) (h:decide (((lst a).length:Int)≤8)=true):decide (depV a≤3)=cx a:=by
 unfold cx;rw [cG hI hi,h];rfl
section
variable {k n st:Int} {tx:ByteArray} {l4 l5 l6:List (List D)}
def preB (k st:Int) (tx:ByteArray) (l4 l5 l6:List (List D)):Bool :=
 (k == 3 || l4.length == 0) && ((k == 5 || (l5.length == 0 && l6.length == 0)) && ((k == 2 || tx.toList == []) && (k == 4 || st == 0)))
def jf (k n st:Int) (tx:ByteArray) (l4 l5 l6:List (List D)):Bool :=
 if k=1 then inR n (-1000000000) 1000000000 else if k=2 then n == 0 && okTxt tx else if k=3 then n == 0 && cx [.i k,.i n,.i st,.s tx,.l l4,.l l5,.l l6] else
 if k=4 then inR n (-1000000000) 1000000000 && inR st (-1000000000) 1000000000 else if k=5 then n == 0 && lH l5 l6 else if k=6 then inR n 1 8 else false
abbrev val7 (k n st:Int) (tx:ByteArray) (l4 l5 l6:List (List D)):List D:=[.i k,.i n,.i st,.s tx,.l l4,.l l5,.l l6]
theorem w56 (h:wRow (val7 k n st tx l4 l5 l6)≤WM):l5.length+l6.length≤1099511627776:=by
 have h' : wRow (val7 k n st tx l4 l5 l6)≤1099511627776:=h
 simp only [wRow,wD] at h'
 omega
theorem okV7:okV (val7 k n st tx l4 l5 l6)=(preB k st tx l4 l5 l6 && jf k n st tx l4 l5 l6):=okV_eq _
theorem ov1 (hk:(k == 3)=false) (h:decide ((l4.length:Int) > 0)=true):false=okV (val7 k n st tx l4 l5 l6):=by
 have:(l4.length == 0)=false:=by have:=jbO h;simp;intro h;subst h;simp at this
 rw [okV7,preB,hk,this];rfl
theorem ov1' (hk:(k == 3)=false) (h:((l4.length:Int) == 0)=false):false=okV (val7 k n st tx l4 l5 l6):=by
 have:(l4.length == 0)=false:=by simp at h ⊢;exact h
 rw [okV7,preB,hk,this];rfl
theorem ov2 (hk:(k == 5)=false) (b56:l5.length+l6.length≤1099511627776) (h:decide (IntKind.i64.wrap ((l5.length:Int)+(l6.length:Int)) > 0)=true):false=okV (val7 k n st tx l4 l5 l6):=by
 have:(l5.length == 0 && l6.length == 0)=false:=by
  have:=jbO h
  rw [IntKind.wrap_i64] at this
  rw [Bool.and_eq_false_iff,beq_eq_false_iff_ne,beq_eq_false_iff_ne]
  omega
 rw [okV7,preB,hk,this];simp
theorem ov2' (hk:(k == 5)=false) (h:((l5.length:Int) == 0)=false):false=okV (val7 k n st tx l4 l5 l6):=by
 have:(l5.length == 0)=false:=by simp at h ⊢;exact h
 rw [okV7,preB,hk,this];simp
theorem s9 (hk:(k == 5)=false) (h:((l6.length:Int) == 0)=false):false=okV (val7 k n st tx l4 l5 l6):=by
 have:(l6.length == 0)=false:=by simp at h ⊢;exact h
 rw [okV7,preB,hk,this];simp
theorem bc:(⟨#[]⟩:ByteArray).toList=[]:=by rw [ByteArray.toList_eq]
theorem ov3' (hk:(k == 2)=false) (h:(tx.toList == (⟨#[]⟩:ByteArray).toList)=false):false=okV (val7 k n st tx l4 l5 l6):=by
 rw [bc] at h
 rw [okV7,preB,hk,h];simp
theorem ov3 (hk:(k == 2)=false) (h:(!(tx.toList == (⟨#[]⟩:ByteArray).toList))=true):false=okV (val7 k n st tx l4 l5 l6):=ov3' hk (aY h)
theorem ov4' (hk:(k == 4)=false) (h:(st == 0)=false):false=okV (val7 k n st tx l4 l5 l6):=by
 rw [okV7,preB,hk,h];simp
theorem ov4 (hk:(k == 4)=false) (h:(st != 0)=true):false=okV (val7 k n st tx l4 l5 l6):=ov4' hk (by simpa [bne] using h)
theorem oq1 (h:decide ((l4.length:Int) > 0)=false):(l4.length == 0)=true:=by
 have:=jbZ h
 rw [beq_iff_eq];omega
theorem oq1' (h:((l4.length:Int) == 0)=true):(l4.length == 0)=true:=by
 have:=eq_of_beq h
 rw [beq_iff_eq];omega
theorem oq2 (b56:l5.length+l6.length≤1099511627776) (h:decide (IntKind.i64.wrap ((l5.length:Int)+(l6.length:Int)) > 0)=false):(l5.length == 0 && l6.length == 0)=true:=by
 have:=jbZ h
 rw [IntKind.wrap_i64] at this
 rw [jb1,beq_iff_eq,beq_iff_eq]
 omega
theorem oq2' (h:((l5.length:Int) == 0)=true) (h' : ((l6.length:Int) == 0)=true):(l5.length == 0 && l6.length == 0)=true:=by rw [oq1' h,oq1' h'];rfl
theorem oq3' (h:(tx.toList == (⟨#[]⟩:ByteArray).toList)=true):(tx.toList == [])=true:=by rw [← bc];exact h
theorem oq3 (h:(!(tx.toList == (⟨#[]⟩:ByteArray).toList))=false):(tx.toList == [])=true:=oq3' (aA h)
theorem oq4 (h:(st != 0)=false):(st == 0)=true:=by simpa [bne] using h
theorem pre1 (h1:(l4.length == 0)=true) (h2:(l5.length == 0 && l6.length == 0)=true) (h3:(tx.toList == [])=true) (h4:(st == 0)=true):preB 1 st tx l4 l5 l6=true:=by rw [preB,h1,h2,h3,h4];rfl
theorem pre2 (h1:(l4.length == 0)=true) (h2:(l5.length == 0 && l6.length == 0)=true) (h4:(st == 0)=true):preB 2 st tx l4 l5 l6=true:=by rw [preB,h1,h2,h4];rfl
theorem pre3 (h2:(l5.length == 0 && l6.length == 0)=true) (h3:(tx.toList == [])=true) (h4:(st == 0)=true):preB 3 st tx l4 l5 l6=true:=by rw [preB,h2,h3,h4];rfl
theorem pre4 (h1:(l4.length == 0)=true) (h2:(l5.length == 0 && l6.length == 0)=true) (h3:(tx.toList == [])=true):preB 4 st tx l4 l5 l6=true:=by rw [preB,h1,h2,h3];rfl
theorem pre5 (h1:(l4.length == 0)=true) (h3:(tx.toList == [])=true) (h4:(st == 0)=true):preB 5 st tx l4 l5 l6=true:=by rw [preB,h1,h3,h4];rfl
theorem pre6 (h1:(l4.length == 0)=true) (h2:(l5.length == 0 && l6.length == 0)=true) (h3:(tx.toList == [])=true) (h4:(st == 0)=true):preB 6 st tx l4 l5 l6=true:=by rw [preB,h1,h2,h3,h4];rfl
theorem okV_of {b:Bool} (hp:preB k st tx l4 l5 l6=true) (h:b=jf k n st tx l4 l5 l6):b=okV (val7 k n st tx l4 l5 l6):=by rw [okV7,hp,h];rfl
theorem k2y {b:Bool} (h:(n == 0)=true) (hb:b=okTxt tx:=by rfl):b=jf 2 n st tx l4 l5 l6:=by
 rw [hb];show _=(n == 0 && okTxt tx);rw [h];rfl
theorem k3y {b:Bool} (h:(n == 0)=true) (hb:b=cx (val7 3 n st tx l4 l5 l6)):b=jf 3 n st tx l4 l5 l6:=by
 rw [hb];show _=(n == 0 && cx (val7 3 n st tx l4 l5 l6));rw [h];rfl
theorem wI {n st:Int} {tx:ByteArray} {l4 l5 l6:List (List D)} {i:Nat} (hi:i < l4.length) (h:(elK (rAt l4 i) && okV (rAt l4 i))=false):false=okV (val7 3 n st tx l4 l5 l6):=by
 have:jf 3 n st tx l4 l5 l6=false:=by
  show (n == 0 && cx (val7 3 n st tx l4 l5 l6))=false
  rw [← lv_no (a:=val7 3 n st tx l4 l5 l6) hi h]
  simp
 rw [okV7,this];simp
theorem k4y {b:Bool} (h:inR n (-1000000000) 1000000000=true) (hb:b=inR st (-1000000000) 1000000000:=by rfl):b=jf 4 n st tx l4 l5 l6:=by
 rw [hb];show _=(inR n (-1000000000) 1000000000 && _);rw [h];rfl
theorem k4n (h:inR n (-1000000000) 1000000000=false):false=jf 4 n st tx l4 l5 l6:=by
 show _=(inR n (-1000000000) 1000000000 && _);rw [h];rfl
theorem k5y {b:Bool} (h:(n == 0)=true) (hb:b=tblV (val7 5 n st tx l4 l5 l6)):b=jf 5 n st tx l4 l5 l6:=by
 rw [hb];show _=(n == 0 && lH l5 l6);rw [h];rfl
theorem okV_n {k:Int} (hk:(k == 1)=false∧(k == 4)=false∧(k == 6)=false) (h:(n == 0)=false):false=okV (val7 k n st tx l4 l5 l6):=by
 have:jf k n st tx l4 l5 l6=false:=by
  simp only [beq_eq_false_iff_ne] at hk
  unfold jf
  rw [if_neg hk.1,if_neg hk.2.1,if_neg hk.2.2,h]
  simp
 rw [okV7,this];simp
theorem okV_other (h:¬ k=1∧¬ k=2∧¬ k=3∧¬ k=4∧¬ k=5∧¬ k=6):false=okV (val7 k n st tx l4 l5 l6):=by
 obtain ⟨h1,h2,h3,h4,h5,h6⟩:=h
 have:jf k n st tx l4 l5 l6=false:=by unfold jf;rw [if_neg h1,if_neg h2,if_neg h3,if_neg h4,if_neg h5,if_neg h6]
 rw [okV7,this];simp
end
end Go.Proofs.YtdjfhmghebommaaGreatDoor.Ab
