/- A part. -/
import Derived.Test.YtdjfhmghebommaaGreatDoorDYf
namespace Go.Proofs.YtdjfhmghebommaaGreatDoor.Ab
open Go.RowKit
set_option linter.all false
abbrev ES:ByteArray:=⟨#[]⟩
abbrev vNil:List D:=val7 0 0 0 ES [] [] []
abbrev vNum (n:Int):List D:=val7 1 n 0 ES [] [] []
abbrev vTxt (t:ByteArray):List D:=val7 2 0 0 t [] [] []
abbrev vLst (l:List (List D)):List D:=val7 3 0 0 ES l [] []
abbrev vStr (n st:Int):List D:=val7 4 n st ES [] [] []
abbrev vTbl (c l:List (List D)):List D:=val7 5 0 0 ES [] c l
abbrev vErr (n:Int):List D:=val7 6 n 0 ES [] [] []
abbrev TBO:ByteArray:=⟨#[116,97,98,108,101,40]⟩
abbrev CLB:ByteArray:=⟨#[44,32,91]⟩
def stB (s:ByteArray) (k:Int) (w:ByteArray):Bool:=decide ((s.size:Int) - k ≥ (w.size:Int)) && ((s.extract k.toNat (k+(w.size:Int)).toNat).toList == w.toList)
def runB (P:Int→Bool) (s:ByteArray) (k:Nat):Nat:=k+((s.data.toList.drop k).takeWhile fun b=>P (b.toNat:Int)).length
theorem lU {P:Int→Bool} {s:ByteArray} {k:Nat} (h:k≤s.size):runB P s k≤s.size:=by
 unfold runB
 have:=(List.takeWhile_sublist (fun b:UInt8=>P (b.toNat:Int)) (l:=s.data.toList.drop k)).length_le
 have hl:s.data.toList.length=s.size:=jb5
 rw [jct,hl] at this
 omega
theorem j3 {P:Int→Bool} {s:ByteArray} {k:Nat}:k≤runB P s k:=Nat.le_add_right _ _
theorem drop_at {s:ByteArray} {k:Nat} (h:k < s.size):s.data.toList.drop k=s.data.getD k 0 :: s.data.toList.drop (k+1):=by
 have hl:k < s.data.toList.length:=by rw [jb5];exact h
 rw [List.drop_eq_getElem_cons hl]
 congr 1
 have h' : k < s.data.size:=h
 simp [jcS,jcq h']
theorem jm {P:Int→Bool} {s:ByteArray} {k:Nat} (h:k < s.size) (hp:P (bAt s k)=true):runB P s k=runB P s (k+1):=by
 unfold runB
 rw [drop_at h,List.takeWhile_cons_of_pos (by exact hp),jb3]
 omega
theorem dc {P:Int→Bool} {s:ByteArray} {k:Nat} (h:k < s.size) (hp:P (bAt s k)=false):runB P s k=k:=by
 unfold runB
 rw [drop_at h,jdR (by rw [show P ((s.data.getD k 0).toNat:Int)=false from hp];simp)]
 rfl
theorem jo {P:Int→Bool} {s:ByteArray} {k:Nat} (h:¬ k < s.size):runB P s k=k:=by
 unfold runB
 rw [jdE (by rw [jb5];show s.size≤k;omega)]
 rfl
theorem bi {s w:ByteArray} {k:Int} (h:stB s k w=true):k+(w.size:Int)≤s.size:=by
 unfold stB at h
 rw [jb1,decide_eq_true_eq] at h
 omega
def sgnK (s:ByteArray) (k:Nat):Nat:=if k < s.size∧bAt s k=45 then k+1 else k
def numE (s:ByteArray) (k:Nat):Nat:=runB digB s (sgnK s k)
theorem sk {s:ByteArray} {k:Nat} (h:k≤s.size):k≤sgnK s k∧sgnK s k≤s.size:=by
 unfold sgnK
 split <;> omega
theorem yd {s:ByteArray} {k:Nat} (h:k≤s.size):k≤numE s k∧numE s k≤s.size :=
 ⟨jbV (sk h).1 j3,lU (sk h).2⟩
noncomputable abbrev prsN (s:ByteArray) (k:Nat):Int × Bool:=prs (-999999999999) 999999999999 (s.extract k (numE s k))
noncomputable def intP (s:ByteArray) (k:Int):Int × Int:=if (prsN s k.toNat).2=true then ((prsN s k.toNat).1,(numE s k.toNat:Int)) else (0, -1)
theorem mg (n:Int):(aH n).size ≠ 0:=by
 show (Lib.itoa n).toArray.size ≠ 0
 rw [jcm]
 have h1:∀ u,(Lib.decDigits u).length ≠ 0:=fun u h=>fe u (jcl.1 h)
 unfold Lib.itoa
 split
 · rw [jb3];omega
 · exact h1 _
theorem jv {s:ByteArray} {k:Int} (h0:0≤k) (h:k≤s.size):(intP s k).2 = -1∨(k < (intP s k).2∧(intP s k).2≤s.size):=by
 unfold intP
 split
 · rename_i hp
   right
   have h1:=yd (s:=s) (k:=k.toNat) (by omega)
   refine ⟨?_,by omega⟩
   have h2:=sY hp
   have h3:(s.extract k.toNat (numE s k.toNat)).size ≠ 0:=fun h=>mg (prsN s k.toNat).1 (by rw [h2];exact h)
   have h4:((s.extract k.toNat (numE s k.toNat)).size=min (numE s k.toNat) s.size - k.toNat):=jcd
   show k < ((numE s k.toNat:Nat):Int)
   omega
 · exact .inl rfl
theorem oQ (s:ByteArray) (k:Int):inK .i64 (intP s k).1:=by
 have h1:IntKind.i64.min = -9223372036854775808:=by decide
 have h2:IntKind.i64.max=9223372036854775807:=by decide
 unfold intP
 split
 · have:-999999999999≤(prsN s k.toNat).1∧(prsN s k.toNat).1≤999999999999:=pT (lo:=-999999999999) (hi:=999999999999) (s:=s.extract k.toNat (numE s k.toNat)) (by decide) (by decide)
   rw [inK,h1,h2]
   omega
 · rw [inK,h1,h2];decide
def quoE (s:ByteArray) (k:Int):Nat:=runB (fun b=>b != 34) s (k.toNat+1)
def quoP (s:ByteArray) (k:Int):ByteArray × Int:=if stB s k QUO=true then (if quoE s k=s.size then (ES, -1) else (s.extract (k.toNat+1) (quoE s k),(quoE s k:Int)+1)) else (ES, -1)
theorem cB {s:ByteArray} {k:Int} (h0:0≤k) (h:k≤s.size):((quoP s k).2 = -1∧(quoP s k).1=ES)∨(k+2≤(quoP s k).2∧(quoP s k).2≤s.size∧((quoP s k).1.size:Int)+2≤(quoP s k).2 - k):=by
 unfold quoP
 split
 · rename_i hs
   have h1:=bi hs
   have e:(QUO.size:Int)=1:=rfl
   split
   · exact .inl ⟨rfl,rfl⟩
   · rename_i hne
     right
     have h2:k.toNat+1≤quoE s k:=j3
     have h3:quoE s k≤s.size:=lU (by omega)
     have h4:(s.extract (k.toNat+1) (quoE s k)).size=min (quoE s k) s.size - (k.toNat+1):=jcd
     refine ⟨by show k+2≤(quoE s k:Int)+1;omega,by show (quoE s k:Int)+1≤s.size;omega,?_⟩
     show ((s.extract (k.toNat+1) (quoE s k)).size:Int)+2≤(quoE s k:Int)+1 - k
     rw [h4]
     omega
 · exact .inl ⟨rfl,rfl⟩
noncomputable def strP (s:ByteArray) (k:Int):List D × Int :=
 if (intP s k).2 < 0 then (vNil, -1) else if stB s (intP s k).2 COMMA=false then (vNil, -1) else
 if (intP s ((intP s k).2+2)).2 < 0 then (vNil, -1) else if stB s (intP s ((intP s k).2+2)).2 RPA=false then (vNil, -1) else
 (vStr (intP s k).1 (intP s ((intP s k).2+2)).1,(intP s ((intP s k).2+2)).2+1)
section
variable (par:Int→List D × Int) (s:ByteArray)
def bo:Nat→Int→List (List D)→List (List D) × Int
 | 0,_,_=>([], -1)
 | m+1,k,out=>if (par k).2 < 0 then ([], -1) else if stB s (par k).2 RBR=true then (out++[(par k).1],(par k).2+1) else
   if stB s (par k).2 COMMA=false then ([], -1) else bo m ((par k).2+2) (out++[(par k).1])
def itmP (k:Int):List (List D) × Int:=if stB s k RBR=true then ([],k+1) else bo par s 64 k []
end
def aD (v:List D):List D:=[.l ((lst v).map fun y=>[.i (iAt y 1)]),.l []]
noncomputable def tabP (itm:Int→List (List D) × Int) (s:ByteArray) (k:Int):List D × Int :=
 if (quoP s k).2 < 0 then (vNil, -1) else if stB s (quoP s k).2 CLB=false then (vNil, -1) else
 if (itm ((quoP s k).2+3)).2 < 0 then (vNil, -1) else if stB s (itm ((quoP s k).2+3)).2 RPA=false then (vNil, -1) else
 (vTbl (ae (aj (quoP s k).1)) ((itm ((quoP s k).2+3)).1.map aD),(itm ((quoP s k).2+3)).2+1)
def errC (t:ByteArray):Int:=if t.toList=[] then 0 else max 0 (idxT (ae errs) t)
noncomputable def parP (itm:Int→List (List D) × Int) (s:ByteArray) (k:Int):List D × Int :=
 if stB s k QUO=true then (vTxt (quoP s k).1,(quoP s k).2) else if stB s k LBR=true then (vLst (itm (k+1)).1,(itm (k+1)).2) else
 if stB s k RNG=true then strP s (k+6) else if stB s k TBO=true then tabP itm s (k+6) else
 if stB s k ERR=true then (vErr (errC (s.extract (k+6).toNat s.size)),s.size) else (vNum (intP s k).1,(intP s k).2)
noncomputable def parF (s:ByteArray):Nat→Int→List D × Int
 | 0,_=>(vNil, -1)
 | n+1,k=>parP (itmP (parF s n) s) s k
def Pos (s:ByteArray) (k:Int) (w:Nat) (e:Int):Prop:=(e = -1∧w=0)∨(k < e∧e≤s.size∧(w:Int)≤2 * (e - k))
theorem w7 (k n st:Int) (tx:ByteArray) (l4 l5 l6:List (List D)):wRow (val7 k n st tx l4 l5 l6)=tx.size+(l4.length+aO l4)+(l5.length+aO l5)+(l6.length+aO l6):=by
 simp only [wRow,wD];omega
theorem w_str (xs:List ByteArray):aO (ae xs)=(xs.map (·.size)).sum:=by
 induction xs with
 | nil=>rfl
 | cons x r ih =>
   show aO ([.s x] :: ae r)=_
   rw [aO,ih,jcV,List.sum_cons]
   simp [wRow,wD]
theorem jE:∀ (l:List UInt8),((az l).map List.length).sum+(az l).length≤l.length+1
 | []=>by decide
 | b :: l=>by
   have ih:=jE l
   have hne:=kZ l
   rw [az]
   split
   · simp only [jcV,List.sum_cons,jcc,jb3];omega
   · split
     · rename_i w ws hw
       rw [hw] at ih
       simp only [jcV,List.sum_cons,jb3] at ih ⊢
       omega
     · rename_i hw
       exact absurd hw hne
theorem rq (t:ByteArray):(ae (aj t)).length+aO (ae (aj t))≤t.size+1:=by
 have h:=jE t.data.toList
 rw [w_str,aB]
 have e:((aj t).map (·.size))=(az t.data.toList).map List.length:=by
  unfold aj
  rw [jdd]
  rfl
 have e2:(aj t).length=(az t.data.toList).length:=jb0 _
 have e3:t.data.toList.length=t.size:=jb5
 rw [e,e2]
 omega
theorem xp (v:List D):wRow (aD v)≤wRow v:=by
 have h1:=cT v 4
 have:aO ((lst v).map fun y=>[D.i (iAt y 1)])=0:=by
  induction lst v with
  | nil=>rfl
  | cons x r ih=>rw [jcV,aO,ih];rfl
 unfold aD
 simp only [wRow,wD,this,jb0,jcc,aO]
 unfold lst
 omega
theorem pm (l:List (List D)):aO (l.map aD)≤aO l:=by
 induction l with
 | nil=>exact jb4 _
 | cons x r ih =>
   have:=xp x
   rw [jcV,aO,aO]
   omega
theorem uN {s:ByteArray} {k:Int} (h0:0≤k) (h:k≤s.size):Pos s k (wRow (strP s k).1) (strP s k).2:=by
 unfold strP
 repeat' split
 all_goals first
  | exact .inl ⟨rfl,rfl⟩
  | skip
 rename_i h1 h2 h3 h4
 have a1:=jv h0 h
 have a2:=bi (by simpa using h2)
 have e1:(COMMA.size:Int)=2:=rfl
 have a3:=jv (s:=s) (k:=(intP s k).2+2) (by omega) (by omega)
 have a4:=bi (by simpa using h4)
 have e2:(RPA.size:Int)=1:=rfl
 right
 refine ⟨by show k < _+1;omega,by show _+1≤_;omega,?_⟩
 show ((wRow (vStr _ _):Nat):Int)≤2 * (_+1 - k)
 rw [w7]
 simp only [aO,jcc]
 show ((0+(0+0)+(0+0)+(0+0):Nat):Int)≤_
 omega
theorem ls {par:Int→List D × Int} {s:ByteArray} {k0:Int} (hp:∀ k,k0≤k→k≤s.size→Pos s k (wRow (par k).1) (par k).2) :
 ∀ (m:Nat) (k:Int) (out:List (List D)),k0≤k→k≤s.size→((out.length+aO out:Nat):Int)≤2 * (k - k0) →
   ((bo par s m k out).2 = -1∧(bo par s m k out).1=[])∨(k0 < (bo par s m k out).2∧(bo par s m k out).2≤s.size∧(((bo par s m k out).1.length+aO (bo par s m k out).1:Nat):Int)≤2 * ((bo par s m k out).2 - k0))
 | 0,_,_,_,_,_=>.inl ⟨rfl,rfl⟩
 | m + 1, k,out,h0,h,hw=>by
   have a:=hp k h0 h
   have hl:(((out++[(par k).1]).length+aO (out++[(par k).1]):Nat):Int)=((out.length+aO out:Nat):Int)+1+(wRow (par k).1:Int):=by
    rw [jbQ,cH]
    simp only [jb3,jcc,aO]
    omega
   unfold bo
   split
   · exact .inl ⟨rfl,rfl⟩
   · rename_i h1
     rcases a with ⟨a,_⟩|⟨a1,a2,a3⟩
     · omega
     split
     · rename_i h2
       have b:=bi h2
       have e:(RBR.size:Int)=1:=rfl
       right
       refine ⟨by show _ < _+1;omega,by show _+1≤_;omega,?_⟩
       show (((out++[(par k).1]).length+aO (out++[(par k).1]):Nat):Int)≤2 * ((par k).2+1 - k0)
       omega
     · split
       · exact .inl ⟨rfl,rfl⟩
       · rename_i h2 h3
         have b:=bi (by simpa using h3)
         have e:(COMMA.size:Int)=2:=rfl
         exact ls hp m _ _ (by omega) (by omega) (by omega)
theorem mh {par:Int→List D × Int} {s:ByteArray} {k0:Int} (hp:∀ k,k0≤k→k≤s.size→Pos s k (wRow (par k).1) (par k).2) (h:k0≤s.size) :
 ((itmP par s k0).2 = -1∧(itmP par s k0).1=[])∨(k0 < (itmP par s k0).2∧(itmP par s k0).2≤s.size∧(((itmP par s k0).1.length+aO (itmP par s k0).1:Nat):Int)≤2 * ((itmP par s k0).2 - k0)):=by
 unfold itmP
 split
 · rename_i h2
   have b:=bi h2
   have e:(RBR.size:Int)=1:=rfl
   right
   refine ⟨by show k0 < k0+1;omega,by show k0+1≤_;omega,?_⟩
   show ((0+0:Nat):Int)≤2 * (k0+1 - k0)
   omega
 · exact ls hp 64 k0 [] (by omega) h (by show ((0+0:Nat):Int)≤_;omega)
theorem dv (s:ByteArray):∀ (n:Nat) (k:Int),0≤k→k≤s.size→Pos s k (wRow (parF s n k).1) (parF s n k).2
 | 0,_,_,_=>.inl ⟨rfl,rfl⟩
 | n+1,k,h0,h=>by
   have itm:∀ k0,0≤k0→k0≤(s.size:Int)→_:=fun k0 h0 h=>mh (par:=parF s n) (s:=s) (k0:=k0) (fun k hk hs=>dv s n k (by omega) hs) h
   show Pos s k (wRow (parP (itmP (parF s n) s) s k).1) (parP (itmP (parF s n) s) s k).2
   unfold parP
   split
   · rcases cB h0 h with ⟨h1,h2⟩|⟨h1,h2,h3⟩
     · refine .inl ⟨h1,?_⟩
       show wRow (vTxt (quoP s k).1)=0
       rw [h2];rfl
     · refine .inr ⟨by show k < (quoP s k).2;omega,h2,?_⟩
       show ((wRow (vTxt (quoP s k).1):Nat):Int)≤2 * ((quoP s k).2 - k)
       rw [w7]
       simp only [aO,jcc]
       omega
   split
   · rename_i h1
     have b:=bi h1
     have e:(LBR.size:Int)=1:=rfl
     rcases itm (k+1) (by omega) (by omega) with ⟨a1,a2⟩|⟨a1,a2,a3⟩
     · refine .inl ⟨a1,?_⟩
       show wRow (vLst (itmP (parF s n) s (k+1)).1)=0
       rw [a2];rfl
     · refine .inr ⟨by show k < (itmP (parF s n) s (k+1)).2;omega,a2,?_⟩
       show ((wRow (vLst (itmP (parF s n) s (k+1)).1):Nat):Int)≤2 * ((itmP (parF s n) s (k+1)).2 - k)
       rw [w7]
       simp only [aO,jcc]
       have e2:ES.size=0:=rfl
       rw [e2]
       omega
   split
   · rename_i h1
     have b:=bi h1
     have e:(RNG.size:Int)=6:=rfl
     rcases uN (s:=s) (k:=k+6) (by omega) (by omega) with ⟨a1,a2⟩|⟨a1,a2,a3⟩
     · exact .inl ⟨a1,a2⟩
     · exact .inr ⟨by omega,a2,by omega⟩
   split
   · rename_i h1
     have b:=bi h1
     have e:(TBO.size:Int)=6:=rfl
     unfold tabP
     rcases cB (s:=s) (k:=k+6) (by omega) (by omega) with ⟨q1,q2⟩|⟨q1,q2,q3⟩
     · rw [if_pos (by omega)];exact .inl ⟨rfl,rfl⟩
     rw [if_neg (by omega)]
     split
     · exact .inl ⟨rfl,rfl⟩
     rename_i c1
     have c2:=bi (by simpa using c1)
     have e3:(CLB.size:Int)=3:=rfl
     rcases itm ((quoP s (k+6)).2+3) (by omega) (by omega) with ⟨a1,a2⟩|⟨a1,a2,a3⟩
     · rw [if_pos (by omega)];exact .inl ⟨rfl,rfl⟩
     rw [if_neg (by omega)]
     split
     · exact .inl ⟨rfl,rfl⟩
     rename_i d1
     have d2:=bi (by simpa using d1)
     have e4:(RPA.size:Int)=1:=rfl
     generalize hr:itmP (parF s n) s ((quoP s (k+6)).2+3)=r at *
     generalize hq:quoP s (k+6)=q at *
     refine .inr ⟨by show k < r.2+1;omega,by show r.2+1≤_;omega,?_⟩
     show ((wRow (vTbl (ae (aj q.1)) (r.1.map aD)):Nat):Int)≤2 * (r.2+1 - k)
     have w1:=rq q.1
     have w2:=pm r.1
     rw [w7,jb0]
     have e2:ES.size=0:=rfl
     rw [e2]
     simp only [aO,jcc]
     omega
   split
   · rename_i h1
     have b:=bi h1
     have e:(ERR.size:Int)=6:=rfl
     refine .inr ⟨by show k < (s.size:Int);omega,jcz _,?_⟩
     show ((wRow (vErr _):Nat):Int)≤2 * ((s.size:Int) - k)
     rw [w7]
     simp only [aO,jcc]
     show ((0+(0+0)+(0+0)+(0+0):Nat):Int)≤_
     omega
   · have e0:wRow (vNum (intP s k).1)=0:=by rw [w7];rfl
     show Pos s k (wRow (vNum (intP s k).1)) (intP s k).2
     rw [e0]
     rcases jv h0 h with h1|⟨h1,h2⟩
     · exact .inl ⟨h1,rfl⟩
     · exact .inr ⟨h1,h2,by omega⟩
section
variable {T:Tab}
def PosIn (s:ByteArray) (k:Int):Prop:=s.size≤1048576∧0≤k∧k≤s.size
def fp:FSpec where
 pre args:=∃ (s w:ByteArray) (k:Int),PosIn s k∧w.size≤100∧args=[sArg s,iArg k,sArg w]
 res args:=match args with
  | [.val _ [.s s],.val _ [.i _ k],.val _ [.s w]]=>.val false [.b (stB s k w)]
  | _=>.none
noncomputable def sb:FSpec where
 pre args:=∃ (s:ByteArray) (k:Int),PosIn s k∧args=[sArg s,iArg k]
 res args:=match args with
  | [.val _ [.s s],.val _ [.i _ k]]=>.tup [(false,[.i .i64 (intP s k).1]),(false,[.i .i64 (intP s k).2])]
  | _=>.none
def rV:FSpec where
 pre args:=∃ (s:ByteArray) (k:Int),PosIn s k∧args=[sArg s,iArg k]
 res args:=match args with
  | [.val _ [.s s],.val _ [.i _ k]]=>.tup [(false,[.s (quoP s k).1]),(false,[.i .i64 (quoP s k).2])]
  | _=>.none
def spVP (cts:List CT) (ok:ByteArray→Int→Prop) (f:ByteArray→Int→List D × Int):FSpec where
 pre args:=∃ (s:ByteArray) (k:Int),PosIn s k∧ok s k∧args=[sArg s,iArg k]
 res args:=match args with
  | [.val _ [.s s],.val _ [.i _ k]]=>.tup [(true,rowC cts (f s k).1),(false,[.i .i64 (f s k).2])]
  | _=>.none
def spLP (e:TypeId) (ok:ByteArray→Int→Prop) (f:ByteArray→Int→List (List D) × Int):FSpec where
 pre args:=∃ (s:ByteArray) (k:Int),PosIn s k∧ok s k∧args=[sArg s,iArg k]
 res args:=match args with
  | [.val _ [.s s],.val _ [.i _ k]]=>.tup [(false,[.sl false e (f s k).1]),(false,[.i .i64 (f s k).2])]
  | _=>.none
def qB (cts:List CT) (f:Int→List D):FSpec where
 pre args:=∃ n:Int,args=[iArg n]
 res args:=match args with
  | [.val _ [.i _ n]]=>.val true (rowC cts (f n))
  | _=>.none
def sa (cts:List CT) (f:ByteArray→List D):FSpec where
 pre args:=∃ t:ByteArray,args=[sArg t]
 res args:=match args with
  | [.val _ [.s t]]=>.val true (rowC cts (f t))
  | _=>.none
def zP (cts:List CT) (f:Int→Int→List D):FSpec where
 pre args:=∃ n m:Int,args=[iArg n,iArg m]
 res args:=match args with
  | [.val _ [.i _ n],.val _ [.i _ m]]=>.val true (rowC cts (f n m))
  | _=>.none
def v7:FSpec where
 pre args:=∃ t:ByteArray,args=[sArg t]
 res args:=match args with
  | [.val _ [.s t]]=>.val false [.i .i64 (errC t)]
  | _=>.none
theorem wr64 {x:Int} (h0:-1099511627776≤x) (h1:x≤1099511627776):IntKind.i64.wrap x=x:=by
 rw [IntKind.wrap_i64];omega
theorem posK {s:ByteArray} {k:Int} (h:PosIn s k) (c:Int) (h0:0≤c) (h1:c≤100):IntKind.i64.wrap (k+c)=k+c:=by
 obtain ⟨a,b,d⟩:=h
 exact wr64 (by omega) (by omega)
theorem resV {cts:List CT} {p q:List D × Int} {cs:List CV} {e:Int} (h:q=p) (hc:cs=rowC cts p.1) (he:e=p.2):[(true,cs),(false,[CV.i .i64 e])]=[(true,rowC cts q.1),(false,[CV.i .i64 q.2])]:=by
 subst h hc he;rfl
theorem resL {e:TypeId} {p q:List (List D) × Int} {r:List (List D)} {k:Int} (h:q=p) (hr:r=p.1) (he:k=p.2):[(false,[CV.sl false e r]),(false,[CV.i .i64 k])]=[(false,[CV.sl false e q.1]),(false,[CV.i .i64 q.2])]:=by
 subst h hr he;rfl
theorem jak {p q:Int × Int} {a b:Int} (h:q=p) (ha:a=p.1) (hb:b=p.2):[(false,[CV.i .i64 a]),(false,[CV.i .i64 b])]=[(false,[CV.i .i64 q.1]),(false,[CV.i .i64 q.2])]:=by
 subst h ha hb;rfl
theorem xS {p q:ByteArray × Int} {a:ByteArray} {b:Int} (h:q=p) (ha:a=p.1) (hb:b=p.2):[(false,[CV.s a]),(false,[CV.i .i64 b])]=[(false,[CV.s q.1]),(false,[CV.i .i64 q.2])]:=by
 subst h ha hb;rfl
theorem st_T {s w:ByteArray} {k:Int} {x y:Int} (hx:x=(s.size:Int) - k) (hy:y=k+(w.size:Int)) (h:decide (x ≥ (w.size:Int))=true):((s.extract k.toNat y.toNat).toList == w.toList)=stB s k w:=by
 subst hx hy;unfold stB;rw [h];rfl
theorem st_F {s w:ByteArray} {k:Int} {x:Int} (hx:x=(s.size:Int) - k) (h:decide (x ≥ (w.size:Int))=false):false=stB s k w:=by
 subst hx;unfold stB;rw [h];rfl
theorem jbb {s:ByteArray} {k:Int} (h:(!(prsN s k.toNat).2)=true):intP s k=(0, -1):=by
 unfold intP
 rw [if_neg (by rw [aY h];decide)]
theorem yy {s:ByteArray} {k:Int} (h:(!(prsN s k.toNat).2)=false):intP s k=((prsN s k.toNat).1,(numE s k.toNat:Int)):=by
 unfold intP
 rw [if_pos (aA h)]
theorem quo_1 {s:ByteArray} {k:Int} (h:(!stB s k QUO)=true):quoP s k=(ES, -1):=by
 unfold quoP
 rw [if_neg (by rw [aY h];decide)]
theorem quo_2 {s:ByteArray} {k:Int} (h:(!stB s k QUO)=false) (he:((quoE s k:Int) == (s.size:Int))=true):quoP s k=(ES, -1):=by
 unfold quoP
 rw [if_pos (aA h),if_pos (by have:=eq_of_beq he;omega)]
theorem quo_3 {s:ByteArray} {k:Int} (h:(!stB s k QUO)=false) (he:((quoE s k:Int) == (s.size:Int))=false):quoP s k=(s.extract (k.toNat+1) (quoE s k),(quoE s k:Int)+1):=by
 unfold quoP
 rw [if_pos (aA h),if_neg (by rw [beq_eq_false_iff_ne] at he;omega)]
theorem zL {s:ByteArray} {k:Int} (h:decide ((intP s k).2 < 0)=true):strP s k=(vNil, -1):=by
 unfold strP
 rw [if_pos (jbO h)]
theorem zK {s:ByteArray} {k:Int} (h:decide ((intP s k).2 < 0)=false) (h2:(!stB s (intP s k).2 COMMA)=true):strP s k=(vNil, -1):=by
 unfold strP
 rw [if_neg (jbZ h),if_pos (aY h2)]
theorem zJ {s:ByteArray} {k y:Int} (hy:y=(intP s k).2+2) (h:decide ((intP s k).2 < 0)=false) (h2:(!stB s (intP s k).2 COMMA)=false) (h3:decide ((intP s y).2 < 0)=true):strP s k=(vNil, -1):=by
 subst hy
 unfold strP
 rw [if_neg (jbZ h),if_neg (by rw [aA h2];decide),if_pos (jbO h3)]
theorem zI {s:ByteArray} {k y:Int} (hy:y=(intP s k).2+2) (h:decide ((intP s k).2 < 0)=false) (h2:(!stB s (intP s k).2 COMMA)=false) (h3:decide ((intP s y).2 < 0)=false) (h4:(!stB s (intP s y).2 RPA)=true):strP s k=(vNil, -1):=by
 subst hy
 unfold strP
 rw [if_neg (jbZ h),if_neg (by rw [aA h2];decide),if_neg (jbZ h3),if_pos (aY h4)]
theorem vS {s:ByteArray} {k y:Int} (hy:y=(intP s k).2+2) (h:decide ((intP s k).2 < 0)=false) (h2:(!stB s (intP s k).2 COMMA)=false) (h3:decide ((intP s y).2 < 0)=false) (h4:(!stB s (intP s y).2 RPA)=false):strP s k=(vStr (intP s k).1 (intP s y).1,(intP s y).2+1):=by
 subst hy
 unfold strP
 rw [if_neg (jbZ h),if_neg (by rw [aA h2];decide),if_neg (jbZ h3),if_neg (by rw [aA h4];decide)]
theorem posC {s:ByteArray} {k:Int} (h:PosIn s k) {w:ByteArray} (hw:w.size≤100) (hs:stB s k w=true):IntKind.i64.wrap (k+(w.size:Int))=k+(w.size:Int)∧PosIn s (k+(w.size:Int)):=by
 have:=bi hs
 obtain ⟨a,b,d⟩:=h
 exact ⟨wr64 (by omega) (by omega),a,by omega,by omega⟩
theorem qc {s:ByteArray} {k:Int} (h:PosIn s k) (hn:decide ((intP s k).2 < 0)=false):PosIn s (intP s k).2:=by
 have:=jbZ hn
 obtain ⟨a,b,d⟩:=h
 rcases jv b d with h1|h1
 · omega
 · exact ⟨a,by omega,h1.2⟩
theorem sS {s:ByteArray} {k:Int} (h:PosIn s k) (hn:decide ((quoP s k).2 < 0)=false):PosIn s (quoP s k).2:=by
 have:=jbZ hn
 obtain ⟨a,b,d⟩:=h
 rcases cB b d with h1|h1
 · omega
 · exact ⟨a,by omega,h1.2.1⟩
theorem sgn_y {s:ByteArray} {k:Nat} (h:k < s.size) (hb:(bAt s k == 45)=true):sgnK s k=k+1:=if_pos ⟨h,eq_of_beq hb⟩
theorem jah {s:ByteArray} {k:Nat} (h:¬ k < s.size):sgnK s k=k:=if_neg fun x=>h x.1
theorem jag {s:ByteArray} {k:Nat} (hb:(bAt s k == 45)=false):sgnK s k=k:=if_neg fun x=>by rw [x.2] at hb;cases hb
theorem dig_y {s:ByteArray} {k:Nat} (h1:decide (bAt s k ≥ 48)=true) (h2:decide (bAt s k≤57)=true):digB (bAt s k)=true:=by unfold digB;rw [h1,h2];rfl
theorem jbA {s:ByteArray} {k:Nat} (h1:decide (bAt s k ≥ 48)=false):digB (bAt s k)=false:=by unfold digB;rw [h1];rfl
theorem jbz {s:ByteArray} {k:Nat} (h2:decide (bAt s k≤57)=false):digB (bAt s k)=false:=by unfold digB;rw [h2];simp
theorem err_0 {t:ByteArray} (h:(t.toList == (⟨#[]⟩:ByteArray).toList)=true):0=errC t:=by
 rw [bc] at h
 unfold errC
 rw [if_pos (eq_of_beq h)]
theorem err_1 {t:ByteArray} (h:(t.toList == (⟨#[]⟩:ByteArray).toList)=false):max 0 (idxT (ae errs) t)=errC t:=by
 rw [bc,beq_eq_false_iff_ne] at h
 unfold errC
 rw [if_neg h]
end
def Fu (n:Nat) (s:ByteArray) (k:Int):Prop:=(s.size:Int)+1 - k≤n
theorem Fu.of {n:Nat} {s:ByteArray} {k j:Int} (h:Fu n s k) (hj:k≤j):Fu n s j:=by unfold Fu at *;omega
theorem Fu.less {n:Nat} {s:ByteArray} {k j:Int} (h:Fu (n+1) s k) (hj:k+1≤j):Fu n s j:=by unfold Fu at *;omega
section
variable {par:Int→List D × Int} {s:ByteArray}
theorem itF_0 {m:Nat} {k:Int} {out:List (List D)} (hm:out.length+m=64) (h:decide ((out.length:Int) < 64)=false):bo par s m k out=([], -1):=by
 have:=jbZ h
 have:m=0:=by omega
 subst this;rfl
theorem itF_s {m:Nat} {out:List (List D)} (hm:out.length+m=64) (h:decide ((out.length:Int) < 64)=true):∃ m',m=m' + 1:=by
 have:=jbO h
 exact ⟨m - 1,by omega⟩
theorem itF_1 {m:Nat} {k:Int} {out:List (List D)} (h:decide ((par k).2 < 0)=true):bo par s (m+1) k out=([], -1):=by
 unfold bo;rw [if_pos (jbO h)]
theorem jba {m:Nat} {k:Int} {out:List (List D)} (h:decide ((par k).2 < 0)=false) (h2:stB s (par k).2 RBR=true):bo par s (m+1) k out=(out++[(par k).1],(par k).2+1):=by
 unfold bo;rw [if_neg (jbZ h),if_pos h2]
theorem itF_3 {m:Nat} {k:Int} {out:List (List D)} (h:decide ((par k).2 < 0)=false) (h2:stB s (par k).2 RBR=false) (h3:(!stB s (par k).2 COMMA)=true):bo par s (m+1) k out=([], -1):=by
 unfold bo;rw [if_neg (jbZ h),if_neg (by rw [h2];decide),if_pos (aY h3)]
theorem ja9 {m:Nat} {k:Int} {out:List (List D)} (h:decide ((par k).2 < 0)=false) (h2:stB s (par k).2 RBR=false) (h3:(!stB s (par k).2 COMMA)=false):bo par s (m+1) k out=bo par s m ((par k).2+2) (out++[(par k).1]):=by
 rw [bo,if_neg (jbZ h),if_neg (by rw [h2];decide),if_neg (by rw [aA h3];decide)]
theorem ja7 {k:Int} (h:stB s k RBR=true):itmP par s k=([],k+1):=if_pos h
theorem ja6 {k:Int} (h:stB s k RBR=false):itmP par s k=bo par s 64 k []:=if_neg (by rw [h];decide)
end
theorem jaI {s:ByteArray} {n:Nat} {k:Int} (h:PosIn s k) (hn:decide ((parF s n k).2 < 0)=false):PosIn s (parF s n k).2∧k < (parF s n k).2:=by
 have:=jbZ hn
 obtain ⟨a,b,d⟩:=h
 rcases dv s n k b d with h1|h1
 · omega
 · exact ⟨⟨a,by omega,h1.2.1⟩,h1.1⟩
section
variable {itm:Int→List (List D) × Int} {s:ByteArray} {k:Int}
theorem tab_1 (h:decide ((quoP s k).2 < 0)=true):tabP itm s k=(vNil, -1):=by unfold tabP;rw [if_pos (jbO h)]
theorem tab_2 (h:decide ((quoP s k).2 < 0)=false) (h2:(!stB s (quoP s k).2 CLB)=true):tabP itm s k=(vNil, -1):=by
 unfold tabP;rw [if_neg (jbZ h),if_pos (aY h2)]
theorem tab_3 {y:Int} (hy:y=(quoP s k).2+3) (h:decide ((quoP s k).2 < 0)=false) (h2:(!stB s (quoP s k).2 CLB)=false) (h3:decide ((itm y).2 < 0)=true):tabP itm s k=(vNil, -1):=by
 subst hy;unfold tabP;rw [if_neg (jbZ h),if_neg (by rw [aA h2];decide),if_pos (jbO h3)]
theorem tab_4 {y:Int} (hy:y=(quoP s k).2+3) (h:decide ((quoP s k).2 < 0)=false) (h2:(!stB s (quoP s k).2 CLB)=false) (h3:decide ((itm y).2 < 0)=false) (h4:(!stB s (itm y).2 RPA)=true):tabP itm s k=(vNil, -1):=by
 subst hy;unfold tabP;rw [if_neg (jbZ h),if_neg (by rw [aA h2];decide),if_neg (jbZ h3),if_pos (aY h4)]
theorem zG {y:Int} (hy:y=(quoP s k).2+3) (h:decide ((quoP s k).2 < 0)=false) (h2:(!stB s (quoP s k).2 CLB)=false) (h3:decide ((itm y).2 < 0)=false) (h4:(!stB s (itm y).2 RPA)=false) :
 tabP itm s k=(vTbl (ae (aj (quoP s k).1)) ((itm y).1.map aD),(itm y).2+1):=by
 subst hy;unfold tabP;rw [if_neg (jbZ h),if_neg (by rw [aA h2];decide),if_neg (jbZ h3),if_neg (by rw [aA h4];decide)]
theorem jaO (h:stB s k QUO=true):parP itm s k=(vTxt (quoP s k).1,(quoP s k).2):=if_pos h
theorem jaN {y:Int} (hy:y=k+1) (h1:stB s k QUO=false) (h:stB s k LBR=true):parP itm s k=(vLst (itm y).1,(itm y).2):=by
 subst hy;unfold parP;rw [if_neg (by rw [h1];decide),if_pos h]
theorem jaM {y:Int} (hy:y=k+6) (h1:stB s k QUO=false) (h2:stB s k LBR=false) (h:stB s k RNG=true):parP itm s k=strP s y:=by
 subst hy;unfold parP;rw [if_neg (by rw [h1];decide),if_neg (by rw [h2];decide),if_pos h]
theorem jaL {y:Int} (hy:y=k+6) (h1:stB s k QUO=false) (h2:stB s k LBR=false) (h3:stB s k RNG=false) (h:stB s k TBO=true):parP itm s k=tabP itm s y:=by
 subst hy;unfold parP;rw [if_neg (by rw [h1];decide),if_neg (by rw [h2];decide),if_neg (by rw [h3];decide),if_pos h]
theorem jaK {y:Int} (hy:y=k+6) (h1:stB s k QUO=false) (h2:stB s k LBR=false) (h3:stB s k RNG=false) (h4:stB s k TBO=false) (h:stB s k ERR=true):parP itm s k=(vErr (errC (s.extract y.toNat s.size)),(s.size:Int)):=by
 subst hy;unfold parP;rw [if_neg (by rw [h1];decide),if_neg (by rw [h2];decide),if_neg (by rw [h3];decide),if_neg (by rw [h4];decide),if_pos h]
theorem jaJ (h1:stB s k QUO=false) (h2:stB s k LBR=false) (h3:stB s k RNG=false) (h4:stB s k TBO=false) (h5:stB s k ERR=false):parP itm s k=(vNum (intP s k).1,(intP s k).2):=by
 unfold parP;rw [if_neg (by rw [h1];decide),if_neg (by rw [h2];decide),if_neg (by rw [h3];decide),if_neg (by rw [h4];decide),if_neg (by rw [h5];decide)]
end
def pvOf (v:List D) (e:Bool) (s:ByteArray):List D × Bool:=if e=true∧(fmtO v).toList=s.toList∧s.toList ≠ [] then (v,true) else (vNil,false)
noncomputable def pvS (n:Nat) (s:ByteArray):List D × Bool:=pvOf (parF s n 0).1 ((parF s n 0).2 == (s.size:Int)) s
def spPV (cts:List CT) (n:Nat) (f:ByteArray→List D × Bool):FSpec where
 pre args:=∃ s:ByteArray,s.size≤1048576∧s.size+1≤n∧args=[sArg s]
 res args:=match args with
  | [.val _ [.s s]]=>.tup [(true,rowC cts (f s).1),(false,[.b (f s).2])]
  | _=>.none
theorem oE {cts:List CT} {p q:List D × Bool} {cs:List CV} {e:Bool} (h:q=p) (hc:cs=rowC cts p.1) (he:e=p.2):[(true,cs),(false,[CV.b e])]=[(true,rowC cts q.1),(false,[CV.b q.2])]:=by
 subst h hc he;rfl
theorem pv_1 {v:List D} {e:Bool} {s:ByteArray} (h:e=false):pvOf v e s=(vNil,false):=by
 unfold pvOf;rw [if_neg (fun x=>by rw [h] at x;cases x.1)]
theorem pv_2 {v:List D} {e:Bool} {s:ByteArray} (h:(!(fmtO v).toList == s.toList)=true):pvOf v e s=(vNil,false):=by
 unfold pvOf;rw [if_neg (fun x=>by rw [x.2.1] at h;simp at h)]
theorem pv_3 {v:List D} {e:Bool} {s:ByteArray} (h:(s.toList == (⟨#[]⟩:ByteArray).toList)=true):pvOf v e s=(vNil,false):=by
 unfold pvOf;rw [if_neg (fun x=>x.2.2 (by rw [bc] at h;exact eq_of_beq h))]
theorem pv_4 {v:List D} {e:Bool} {s:ByteArray} (he:e=true) (h:(!(fmtO v).toList == s.toList)=false) (h3:(s.toList == (⟨#[]⟩:ByteArray).toList)=false):pvOf v e s=(v,true):=by
 unfold pvOf
 rw [if_pos ⟨he,eq_of_beq (aA h),fun x=>by rw [bc,x] at h3;simp at h3⟩]
theorem jbG {x y:Int} (h:(x != y)=true):(x == y)=false:=by simpa [bne] using h
theorem jbH {x y:Int} (h:(x != y)=false):(x == y)=true:=by simpa [bne] using h
abbrev Rd3:=List D × Int × Bool
def mdB (b:Int):Bool:=b == 45 || digB b
def cL (s:ByteArray) (k:Int):Nat:=runB mdB s k.toNat
noncomputable abbrev prsI (s:ByteArray) (k:Int):Int × Bool:=prs (-999999999999) 999999999999 (s.extract k.toNat (cL s k))
noncomputable def aW (s:ByteArray) (k:Int) (b:Bool):Rd3:=(vNum (prsI s k).1,(cL s k:Int),b && (prsI s k).2)
def tkK (s:ByteArray) (k:Int) (w:ByteArray):Int:=if stB s k w=true then k+(w.size:Int) else k
def andK (s:ByteArray) (k:Int) (b:Bool) (w:ByteArray):Int:=if b=true then tkK s k w else k
def andB (s:ByteArray) (k:Int) (b:Bool) (w:ByteArray):Bool:=b && stB s k w
def bz (val:Int→Bool→Rd3) (s:ByteArray):Nat→Int→Bool→List (List D)→List (List D) × Int × Bool
 | 0,k,b,out=>(out,k,b)
 | m+1,k,b,out=>if b=false then (out,k,b) else
   if stB s (val k b).2.1 RBR=true then (out++[(val k b).1],(val k b).2.1+1,(val k b).2.2) else
   bz val s m (andK s (val k b).2.1 (val k b).2.2 COMMA) (andB s (val k b).2.1 (val k b).2.2 COMMA) (out++[(val k b).1])
noncomputable def valI (s:ByteArray):Nat→Int→Bool→Rd3
 | 0,k,b=>if stB s k QUO=true then (if (quoP s k).2 < 0 then (vNil,k+1,false) else (vTxt (quoP s k).1,(quoP s k).2,b)) else aW s k b
 | d+1,k,b=>if stB s k QUO=true then (if (quoP s k).2 < 0 then (vNil,k+1,false) else (vTxt (quoP s k).1,(quoP s k).2,b)) else
   if stB s k LBR=true then (if stB s (k+1) RBR=true then (vLst [],k+1+1,b) else
    (vLst (bz (valI s d) s (s.size+3) (k+1) b []).1,(bz (valI s d) s (s.size+3) (k+1) b []).2)) else aW s k b
def errI (t:ByteArray):Int:=idxT (ae errs.tail) t+1
def PosI (s:ByteArray) (k:Int) (b:Bool) (d:Nat) (r:Rd3):Prop :=
 k≤r.2.1∧r.2.1≤s.size∧(r.2.2=true→b=true∧k < r.2.1∧(wRow r.1:Int)≤2 * (r.2.1 - k))∧(wRow r.1:Int)≤2 * (r.2.1 - k)+d+1
theorem mb {s:ByteArray} {k:Int} (b:Bool) (d:Nat) (h0:0≤k) (h:k≤s.size):PosI s k b d (aW s k b):=by
 have h1:k.toNat≤cL s k:=j3
 have h2:cL s k≤s.size:=lU (by omega)
 have e0:wRow (vNum (prsI s k).1)=0:=by rw [w7];rfl
 refine ⟨by show k≤(cL s k:Int);omega,by show (cL s k:Int)≤_;omega,fun hb=>?_,by show ((wRow (vNum (prsI s k).1):Nat):Int)≤2 * ((cL s k:Int) - k)+d+1;rw [e0];omega⟩
 have hb' : (b && (prsI s k).2)=true:=hb
 rw [jb1] at hb'
 have hp:=sY hb'.2
 have h3:(s.extract k.toNat (cL s k)).size ≠ 0:=fun h=>mg (prsI s k).1 (by rw [hp];exact h)
 have h4:(s.extract k.toNat (cL s k)).size=min (cL s k) s.size - k.toNat:=jcd
 refine ⟨hb'.1,by show k < (cL s k:Int);omega,?_⟩
 show ((wRow (vNum (prsI s k).1):Nat):Int)≤2 * ((cL s k:Int) - k)
 rw [e0];omega
theorem pt {s:ByteArray} {k:Int} (b:Bool) (d:Nat) (h0:0≤k) (h:k≤s.size) (hq:stB s k QUO=true):PosI s k b d (if (quoP s k).2 < 0 then (vNil,k+1,false) else (vTxt (quoP s k).1,(quoP s k).2,b)):=by
 have hs:=bi hq
 have e:(QUO.size:Int)=1:=rfl
 split
 · have e0:wRow vNil=0:=rfl
   exact ⟨by show k≤k+1;omega,by show k+1≤_;omega,fun h=>(by cases h),by show ((wRow vNil:Nat):Int)≤2 * (k+1 - k)+d+1;rw [e0];omega⟩
 · rename_i hn
   rcases cB h0 h with ⟨h1,h2⟩|⟨h1,h2,h3⟩
   · omega
   · have hw:((wRow (vTxt (quoP s k).1):Nat):Int)≤2 * ((quoP s k).2 - k):=by
      rw [w7]
      simp only [aO,jcc]
      omega
     exact ⟨by show k≤(quoP s k).2;omega,h2,fun hb=>⟨hb,by show k < (quoP s k).2;omega,hw⟩,by show ((wRow (vTxt (quoP s k).1):Nat):Int)≤2 * ((quoP s k).2 - k)+d+1;omega⟩
theorem vP {s w:ByteArray} {k:Int} (h:k≤s.size):k≤tkK s k w∧tkK s k w≤s.size:=by
 unfold tkK
 split
 · rename_i hs;have:=bi hs;omega
 · omega
theorem uw {s w:ByteArray} {k:Int} {b:Bool} (h:k≤s.size):k≤andK s k b w∧andK s k b w≤s.size:=by
 unfold andK
 split
 · exact vP h
 · omega
def ItI (s:ByteArray) (k0 k:Int) (b:Bool) (d:Nat) (out:List (List D)):Prop :=
 k0≤k∧k≤s.size∧(b=true→((out.length+aO out:Nat):Int)≤2 * (k - k0))∧((out.length+aO out:Nat):Int)≤2 * (k - k0)+d+2
theorem vJ (out:List (List D)) (r:List D):(((out++[r]).length+aO (out++[r]):Nat):Int)=((out.length+aO out:Nat):Int)+1+(wRow r:Int):=by
 rw [jbQ,cH]
 simp only [jb3,jcc,aO]
 omega
theorem ja8 {s:ByteArray} {k0 k:Int} {d:Nat} {out:List (List D)} {r:Rd3} (h:ItI s k0 k true d out) (hr:PosI s k true d r) (hs:stB s r.2.1 RBR=true):ItI s k0 (r.2.1+1) r.2.2 d (out++[r.1]):=by
 have b:=bi hs
 have e:(RBR.size:Int)=1:=rfl
 obtain ⟨a1,a2,a3,a4⟩:=h
 obtain ⟨b1,b2,b3,b4⟩:=hr
 have a3:=a3 rfl
 refine ⟨by omega,by omega,fun hb=>?_,?_⟩
 · have b3:=b3 hb
   rw [vJ];omega
 · rw [vJ];omega
theorem ju {s:ByteArray} {k0 k:Int} {d:Nat} {out:List (List D)} {r:Rd3} (h:ItI s k0 k true d out) (hr:PosI s k true d r):ItI s k0 (andK s r.2.1 r.2.2 COMMA) (andB s r.2.1 r.2.2 COMMA) d (out++[r.1]):=by
 obtain ⟨a1,a2,a3,a4⟩:=h
 obtain ⟨b1,b2,b3,b4⟩:=hr
 have a3:=a3 rfl
 have c:=uw (s:=s) (k:=r.2.1) (b:=r.2.2) (w:=COMMA) b2
 refine ⟨by omega,c.2,fun hb=>?_,?_⟩
 · unfold andB at hb
   rw [jb1] at hb
   have b3:=b3 hb.1
   have e:(COMMA.size:Int)=2:=rfl
   have hk:andK s r.2.1 r.2.2 COMMA=r.2.1+2:=by unfold andK tkK;rw [if_pos hb.1,if_pos hb.2,e]
   rw [vJ,hk];omega
 · rw [vJ];omega
theorem wW {s w:ByteArray} {k:Int} {b:Bool} (h:andB s k b w=true):b=true∧stB s k w=true∧andK s k b w=k+(w.size:Int):=by
 unfold andB at h
 rw [jb1] at h
 exact ⟨h.1,h.2,by unfold andK tkK;rw [if_pos h.1,if_pos h.2]⟩
theorem iJ {val:Int→Bool→Rd3} {s:ByteArray} {k0:Int} {d:Nat} (hv:∀ k,k0≤k→k≤s.size→PosI s k true d (val k true)):∀ (m:Nat) (k:Int) (b:Bool) (out:List (List D)),ItI s k0 k b d out →
 ItI s k0 (bz val s m k b out).2.1 (bz val s m k b out).2.2 d (bz val s m k b out).1∧((bz val s m k b out).2.2=true→b=true)
 | 0,_,_,_,h=>⟨h,fun h=>h⟩
 | m+1,k,false,out,h=>⟨h,fun h=>h⟩
 | m+1,k,true,out,h=>by
   have hr:=hv k h.1 h.2.1
   rw [bz,if_neg (by decide)]
   split
   · rename_i hs
     exact ⟨ja8 h hr hs,fun _=>rfl⟩
   · have:=iJ hv m _ _ _ (ju h hr)
     exact ⟨this.1,fun _=>rfl⟩
theorem dP (s:ByteArray):∀ (d:Nat) (k:Int) (b:Bool),0≤k→k≤s.size→PosI s k b d (valI s d k b)
 | 0,k,b,h0,h=>by
   unfold valI
   split
   · rename_i hq;exact pt b 0 h0 h hq
   · exact mb b 0 h0 h
 | d + 1, k,b,h0,h=>by
   unfold valI
   split
   · rename_i hq;exact pt b (d+1) h0 h hq
   split
   · rename_i _ hl
     have hb:=bi hl
     have e:(LBR.size:Int)=1:=rfl
     split
     · rename_i hr
       have hb2:=bi hr
       have e2:(RBR.size:Int)=1:=rfl
       have e0:wRow (vLst [])=0:=rfl
       exact ⟨by show k≤k+1+1;omega,by show k+1+1≤_;omega,fun hb=>⟨hb,by show k < k+1+1;omega,by show ((wRow (vLst []):Nat):Int)≤2 * (k+1+1 - k);rw [e0];omega⟩,by show ((wRow (vLst []):Nat):Int)≤2 * (k+1+1 - k)+((d+1:Nat):Int)+1;rw [e0];omega⟩
     · have hi:=iJ (val:=valI s d) (s:=s) (k0:=k+1) (d:=d) (fun j hj hs=>dP s d j true (by omega) hs) (s.size+3) (k+1) b [] ⟨by omega,by omega,fun _=>by show ((0+0:Nat):Int)≤_;omega,by show ((0+0:Nat):Int)≤_;omega⟩
       generalize bz (valI s d) s (s.size+3) (k+1) b []=r at *
       obtain ⟨⟨c1,c2,c3,c4⟩,c5⟩:=hi
       have hw:((wRow (vLst r.1):Nat):Int)=((r.1.length+aO r.1:Nat):Int):=by
        rw [w7]
        simp only [aO,jcc]
        show ((0+(r.1.length+aO r.1)+(0+0)+(0+0):Nat):Int)=_
        omega
       refine ⟨by show k≤r.2.1;omega,c2,fun hb=>⟨c5 hb,by show k < r.2.1;omega,?_⟩,?_⟩
       · show ((wRow (vLst r.1):Nat):Int)≤2 * (r.2.1 - k)
         have:=c3 hb
         omega
       · show ((wRow (vLst r.1):Nat):Int)≤2 * (r.2.1 - k)+((d+1:Nat):Int)+1
         omega
   · exact mb b (d+1) h0 h
noncomputable def bN (s:ByteArray):Rd3 :=
 if stB s 0 ERR=true then (vErr (errI (s.extract 6 s.size)),s.size,true) else
 if stB s 0 RNG=true then
  (vStr (iAt (aW s 6 true).1 1) (iAt (aW s (andK s (aW s 6 true).2.1 (aW s 6 true).2.2 COMMA) (andB s (aW s 6 true).2.1 (aW s 6 true).2.2 COMMA)).1 1),
    andK s (aW s (andK s (aW s 6 true).2.1 (aW s 6 true).2.2 COMMA) (andB s (aW s 6 true).2.1 (aW s 6 true).2.2 COMMA)).2.1 (aW s (andK s (aW s 6 true).2.1 (aW s 6 true).2.2 COMMA) (andB s (aW s 6 true).2.1 (aW s 6 true).2.2 COMMA)).2.2 RPA,
    andB s (aW s (andK s (aW s 6 true).2.1 (aW s 6 true).2.2 COMMA) (andB s (aW s 6 true).2.1 (aW s 6 true).2.2 COMMA)).2.1 (aW s (andK s (aW s 6 true).2.1 (aW s 6 true).2.2 COMMA) (andB s (aW s 6 true).2.1 (aW s 6 true).2.2 COMMA)).2.2 RPA) else
 if stB s 0 TBO=true then
  (vTbl (ae (aj ((valI s 0 6 true).1.getD 3 default).str)) ((lst (valI s 2 (andK s (valI s 0 6 true).2.1 (valI s 0 6 true).2.2 COMMA) (andB s (valI s 0 6 true).2.1 (valI s 0 6 true).2.2 COMMA)).1).map aD),
    andK s (valI s 2 (andK s (valI s 0 6 true).2.1 (valI s 0 6 true).2.2 COMMA) (andB s (valI s 0 6 true).2.1 (valI s 0 6 true).2.2 COMMA)).2.1 (valI s 2 (andK s (valI s 0 6 true).2.1 (valI s 0 6 true).2.2 COMMA) (andB s (valI s 0 6 true).2.1 (valI s 0 6 true).2.2 COMMA)).2.2 RPA,
    andB s (valI s 2 (andK s (valI s 0 6 true).2.1 (valI s 0 6 true).2.2 COMMA) (andB s (valI s 0 6 true).2.1 (valI s 0 6 true).2.2 COMMA)).2.1 (valI s 2 (andK s (valI s 0 6 true).2.1 (valI s 0 6 true).2.2 COMMA) (andB s (valI s 0 6 true).2.1 (valI s 0 6 true).2.2 COMMA)).2.2 RPA) else
 valI s 3 0 true
noncomputable def pvI (s:ByteArray):List D × Bool:=pvOf (bN s).1 ((bN s).2.2 && (bN s).2.1 == (s.size:Int)) s
theorem mj:∀ (l:List UInt8),Lib.indexByte l 34=if (l.takeWhile fun b=>((b.toNat:Int) != 34)).length=l.length then -1 else ((l.takeWhile fun b=>((b.toNat:Int) != 34)).length:Int)
 | []=>rfl
 | b :: r=>by
   have ih:=mj r
   unfold Lib.indexByte
   by_cases hb:b=34
   · subst hb
     rw [jdR (by decide)]
     rfl
   · have hp:((b.toNat:Int) != 34)=true:=by
      rw [bne_iff_ne]
      intro e
      exact hb (UInt8.toNat_inj.1 (by show b.toNat=34;omega))
     rw [List.takeWhile_cons_of_pos (p:=fun b:UInt8=>((b.toNat:Int) != 34)) hp,if_neg (by simpa using hb),ih,jb3,jb3]
     have hle:=(List.takeWhile_sublist (fun b:UInt8=>((b.toNat:Int) != 34)) (l:=r)).length_le
     generalize (r.takeWhile fun b=>((b.toNat:Int) != 34)).length=t at *
     by_cases he:t=r.length
     · rw [if_pos he,if_pos (by rfl),if_pos (by omega)]
     · rw [if_neg he,if_neg (by rw [beq_iff_eq];omega),if_neg (by omega)]
       omega
theorem jx (s:ByteArray) (j:Nat):(s.extract j s.size).data.toList=s.data.toList.drop j:=by
 rw [ext_list,jcr (by rw [jb5];exact jb4 _)]
theorem ml {s:ByteArray} {k:Nat} (h:k+1≤s.size):Lib.indexByte (s.extract (k+1) s.size).data.toList 34=if quoE s (k:Int)=s.size then -1 else (quoE s (k:Int):Int) - (k+1):=by
 rw [mj,jx]
 have e:quoE s (k:Int)=k+1+((s.data.toList.drop (k+1)).takeWhile fun b=>((b.toNat:Int) != 34)).length:=rfl
 rw [e]
 generalize ((s.data.toList.drop (k+1)).takeWhile fun b=>((b.toNat:Int) != 34)).length=t
 have hl:(s.data.toList.drop (k+1)).length=s.size - (k+1):=by rw [jct,jb5];rfl
 rw [hl]
 by_cases ht:t=s.size - (k+1)
 · rw [if_pos ht,if_pos (by omega)]
 · rw [if_neg ht,if_neg (by omega)]
   omega
theorem sZ {s w:ByteArray} {k:Nat} (h:k≤s.size):Lib.hasPrefix (s.extract k s.size).data.toList w.data.toList=stB s (k:Int) w:=by
 unfold Lib.hasPrefix stB
 rw [jx,jdB,List.isPrefixOf_iff_prefix,jb1,decide_eq_true_eq,beq_iff_eq,ByteArray.toList_eq,ByteArray.toList_eq]
 have e:(((k:Int)+(w.size:Int)).toNat)=k+w.size:=by omega
 rw [jca,e,ext_list]
 have hw:w.data.toList.length=w.size:=jb5
 have hs:s.data.toList.length=s.size:=jb5
 rw [List.drop_take,show k+w.size - k=w.data.toList.length by omega]
 constructor
 · intro hp
   have hl:=hp.length_le
   rw [jct,hs,hw] at hl
   exact ⟨by omega,(List.prefix_iff_eq_take.1 hp).symm⟩
 · intro ⟨_,hp⟩
   exact List.prefix_iff_eq_take.2 hp.symm
theorem tT (t:ByteArray):errI t=errC t:=by
 have hall:∀ k,k < 8→isAt (ae errs.tail) t k=isAt (ae errs) t (k+1):=by
  intro k hk
  match k,hk with
  | 0,_=>rfl
  | 1,_=>rfl
  | 2,_=>rfl
  | 3,_=>rfl
  | 4,_=>rfl
  | 5,_=>rfl
  | 6,_=>rfl
  | 7,_=>rfl
 have hne:∀ k,k < 8→tAt (ae errs.tail) k ≠ ES:=by
  intro k hk
  match k,hk with
  | 0,_=>decide
  | 1,_=>decide
  | 2,_=>decide
  | 3,_=>decide
  | 4,_=>decide
  | 5,_=>decide
  | 6,_=>decide
  | 7,_=>decide
 have l8:(ae errs.tail).length=8:=rfl
 have l9:(ae errs).length=9:=rfl
 unfold errI errC
 by_cases ht:t.toList=[]
 · rw [if_pos ht]
   have:idxT (ae errs.tail) t = -1:=by
    unfold idxT
    refine gd fun j hj=>?_
    rw [jch,beq_eq_false_iff_ne]
    intro he
    rw [ht] at he
    refine hne j (by omega) ?_
    have:(tAt (ae errs.tail) j).toList=ES.toList:=by rw [he,bc]
    rw [aS] at this
    exact this
   rw [this];rfl
 · rw [if_neg ht]
   have h0:isAt (ae errs) t 0=false:=by
    show (ES.toList == t.toList)=false
    rw [beq_eq_false_iff_ne,bc]
    exact fun e=>ht e.symm
   unfold idxT
   rw [l8,l9]
   rcases dz 8 (isAt (ae errs.tail) t) with ⟨h1,h2⟩|⟨i,hi,h1,h2,h3⟩
   · have:dj 9 (isAt (ae errs) t) = -1:=gd fun j hj=>by
      rw [jch]
      cases j with
      | zero=>exact h0
      | succ j=>rw [← hall j (by omega)];exact h2 j (by omega)
     rw [h1,this];rfl
   · have:dj 9 (isAt (ae errs) t)=((i+1:Nat):Int):=lv (by omega) (by rw [← hall i hi];exact h2) fun j hj=>by
      rw [jch]
      cases j with
      | zero=>exact h0
      | succ j=>rw [← hall j (by omega)];exact h3 j (by omega)
     rw [h1,this]
     omega
end Go.Proofs.YtdjfhmghebommaaGreatDoor.Ab
