/- The reference's reading of values, in plain Lean: where it ends, and how much it reads. No program in sight. Descriptions of the reference's readers of values. No program in sight. -/
import Derived.Test.YtppgalpldaibhaaGreatDoorDYf
namespace Go.Proofs.YtppgalpldaibhaaGreatDoor.Ab
open Go.RowKit
set_option linter.unusedVariables false
abbrev ES:ByteArray:=⟨#[]⟩
abbrev vNil:List D:=val7 0 0 0 ES [] [] []
abbrev vNum (n:Int):List D:=val7 1 n 0 ES [] [] []
abbrev vTxt (t:ByteArray):List D:=val7 2 0 0 t [] [] []
abbrev vLst (l:List (List D)):List D:=val7 3 0 0 ES l [] []
abbrev vStr (n st:Int):List D:=val7 4 n st ES [] [] []
abbrev vTbl (c l:List (List D)):List D:=val7 5 0 0 ES [] c l
abbrev vErr (n:Int):List D:=val7 6 n 0 ES [] [] []
abbrev TBO:ByteArray:=⟨#[116,97,98,108,101,40]⟩
abbrev CLB:ByteArray:=⟨#[44,32,91]⟩
def stB (s:ByteArray) (k:Int) (w:ByteArray):Bool:=decide ((s.size:Int) - k ≥ (w.size:Int)) && ((s.extract k.toNat (k+(w.size:Int)).toNat).toList == w.toList)
def runB (P:Int→Bool) (s:ByteArray) (k:Nat):Nat:=k+((s.data.toList.drop k).takeWhile fun b=>P (b.toNat:Int)).length
theorem runB_le {P:Int→Bool} {s:ByteArray} {k:Nat} (h:k≤s.size):runB P s k≤s.size:=by
  unfold runB
  have:=(List.takeWhile_sublist (fun b:UInt8=>P (b.toNat:Int)) (l:=s.data.toList.drop k)).length_le
  have hl:s.data.toList.length=s.size:=Array.length_toList
  rw [List.length_drop,hl] at this
  omega
theorem runB_ge {P:Int→Bool} {s:ByteArray} {k:Nat}:k≤runB P s k:=Nat.le_add_right _ _
theorem drop_at {s:ByteArray} {k:Nat} (h:k < s.size):s.data.toList.drop k=s.data.getD k 0 :: s.data.toList.drop (k+1):=by
  have hl:k < s.data.toList.length:=by rw [Array.length_toList];exact h
  rw [List.drop_eq_getElem_cons hl]
  congr 1
  have h' : k < s.data.size:=h
  simp [Array.getD_eq_getD_getElem?,Array.getElem?_eq_getElem h']
theorem runB_hit {P:Int→Bool} {s:ByteArray} {k:Nat} (h:k < s.size) (hp:P (bAt s k)=true):runB P s k=runB P s (k+1):=by
  unfold runB
  rw [drop_at h,List.takeWhile_cons_of_pos (by exact hp),List.length_cons]
  omega
theorem runB_miss {P:Int→Bool} {s:ByteArray} {k:Nat} (h:k < s.size) (hp:P (bAt s k)=false):runB P s k=k:=by
  unfold runB
  rw [drop_at h,List.takeWhile_cons_of_neg (by rw [show P ((s.data.getD k 0).toNat:Int)=false from hp];simp)]
  rfl
theorem runB_end {P:Int→Bool} {s:ByteArray} {k:Nat} (h:¬ k < s.size):runB P s k=k:=by
  unfold runB
  rw [List.drop_eq_nil_of_le (by rw [Array.length_toList];show s.size≤k;omega)]
  rfl
theorem stB_le {s w:ByteArray} {k:Int} (h:stB s k w=true):k+(w.size:Int)≤s.size:=by
  unfold stB at h
  rw [Bool.and_eq_true,decide_eq_true_eq] at h
  omega
def sgnK (s:ByteArray) (k:Nat):Nat:=if k < s.size∧bAt s k=45 then k+1 else k
def numE (s:ByteArray) (k:Nat):Nat:=runB digB s (sgnK s k)
theorem sgnK_le {s:ByteArray} {k:Nat} (h:k≤s.size):k≤sgnK s k∧sgnK s k≤s.size:=by
  unfold sgnK
  split <;> omega
theorem numE_le {s:ByteArray} {k:Nat} (h:k≤s.size):k≤numE s k∧numE s k≤s.size :=
  ⟨Nat.le_trans (sgnK_le h).1 runB_ge,runB_le (sgnK_le h).2⟩
noncomputable abbrev prsN (s:ByteArray) (k:Nat):Int × Bool:=prs (-999999999999) 999999999999 (s.extract k (numE s k))
noncomputable def intP (s:ByteArray) (k:Int):Int × Int:=if (prsN s k.toNat).2=true then ((prsN s k.toNat).1,(numE s k.toNat:Int)) else (0, -1)
theorem itoaB_ne (n:Int):(itoaB n).size ≠ 0:=by
  show (Lib.itoa n).toArray.size ≠ 0
  rw [List.size_toArray]
  have h1:∀ u,(Lib.decDigits u).length ≠ 0:=fun u h=>digits_ne u (List.length_eq_zero_iff.1 h)
  unfold Lib.itoa
  split
  · rw [List.length_cons];omega
  · exact h1 _
theorem intP_pos {s:ByteArray} {k:Int} (h0:0≤k) (h:k≤s.size):(intP s k).2 = -1∨(k < (intP s k).2∧(intP s k).2≤s.size):=by
  unfold intP
  split
  · rename_i hp
    right
    have h1:=numE_le (s:=s) (k:=k.toNat) (by omega)
    refine ⟨?_,by omega⟩
    have h2:=prs_ok hp
    have h3:(s.extract k.toNat (numE s k.toNat)).size ≠ 0:=fun h=>itoaB_ne (prsN s k.toNat).1 (by rw [h2];exact h)
    have h4:((s.extract k.toNat (numE s k.toNat)).size=min (numE s k.toNat) s.size - k.toNat):=ByteArray.size_extract
    show k < ((numE s k.toNat:Nat):Int)
    omega
  · exact .inl rfl
theorem intP_in (s:ByteArray) (k:Int):inK .i64 (intP s k).1:=by
  have h1:IntKind.i64.min = -9223372036854775808:=by decide
  have h2:IntKind.i64.max=9223372036854775807:=by decide
  unfold intP
  split
  · have:-999999999999≤(prsN s k.toNat).1∧(prsN s k.toNat).1≤999999999999:=prs_in (lo:=-999999999999) (hi:=999999999999) (s:=s.extract k.toNat (numE s k.toNat)) (by decide) (by decide)
    rw [inK,h1,h2]
    omega
  · rw [inK,h1,h2];decide
def quoE (s:ByteArray) (k:Int):Nat:=runB (fun b=>b != 34) s (k.toNat+1)
def quoP (s:ByteArray) (k:Int):ByteArray × Int:=if stB s k QUO=true then (if quoE s k=s.size then (ES, -1) else (s.extract (k.toNat+1) (quoE s k),(quoE s k:Int)+1)) else (ES, -1)
theorem quoP_pos {s:ByteArray} {k:Int} (h0:0≤k) (h:k≤s.size):((quoP s k).2 = -1∧(quoP s k).1=ES)∨(k+2≤(quoP s k).2∧(quoP s k).2≤s.size∧((quoP s k).1.size:Int)+2≤(quoP s k).2 - k):=by
  unfold quoP
  split
  · rename_i hs
    have h1:=stB_le hs
    have e:(QUO.size:Int)=1:=rfl
    split
    · exact .inl ⟨rfl,rfl⟩
    · rename_i hne
      right
      have h2:k.toNat+1≤quoE s k:=runB_ge
      have h3:quoE s k≤s.size:=runB_le (by omega)
      have h4:(s.extract (k.toNat+1) (quoE s k)).size=min (quoE s k) s.size - (k.toNat+1):=ByteArray.size_extract
      refine ⟨by show k+2≤(quoE s k:Int)+1;omega,by show (quoE s k:Int)+1≤s.size;omega,?_⟩
      show ((s.extract (k.toNat+1) (quoE s k)).size:Int)+2≤(quoE s k:Int)+1 - k
      rw [h4]
      omega
  · exact .inl ⟨rfl,rfl⟩
noncomputable def strP (s:ByteArray) (k:Int):List D × Int :=
  if (intP s k).2 < 0 then (vNil, -1) else if stB s (intP s k).2 COMMA=false then (vNil, -1) else
  if (intP s ((intP s k).2+2)).2 < 0 then (vNil, -1) else if stB s (intP s ((intP s k).2+2)).2 RPA=false then (vNil, -1) else
  (vStr (intP s k).1 (intP s ((intP s k).2+2)).1,(intP s ((intP s k).2+2)).2+1)
section
variable (par:Int→List D × Int) (s:ByteArray)
def itemsF:Nat→Int→List (List D)→List (List D) × Int
  | 0,_,_=>([], -1)
  | m+1,k,out=>if (par k).2 < 0 then ([], -1) else if stB s (par k).2 RBR=true then (out++[(par k).1],(par k).2+1) else
    if stB s (par k).2 COMMA=false then ([], -1) else itemsF m ((par k).2+2) (out++[(par k).1])
def itmP (k:Int):List (List D) × Int:=if stB s k RBR=true then ([],k+1) else itemsF par s 64 k []
end
def rowOfV (v:List D):List D:=[.l ((lst v).map fun y=>[.i (iAt y 1)]),.l []]
noncomputable def tabP (itm:Int→List (List D) × Int) (s:ByteArray) (k:Int):List D × Int :=
  if (quoP s k).2 < 0 then (vNil, -1) else if stB s (quoP s k).2 CLB=false then (vNil, -1) else
  if (itm ((quoP s k).2+3)).2 < 0 then (vNil, -1) else if stB s (itm ((quoP s k).2+3)).2 RPA=false then (vNil, -1) else
  (vTbl (strRows (wordsB (quoP s k).1)) ((itm ((quoP s k).2+3)).1.map rowOfV),(itm ((quoP s k).2+3)).2+1)
def errC (t:ByteArray):Int:=if t.toList=[] then 0 else max 0 (idxT (strRows errs) t)
noncomputable def parP (itm:Int→List (List D) × Int) (s:ByteArray) (k:Int):List D × Int :=
  if stB s k QUO=true then (vTxt (quoP s k).1,(quoP s k).2) else if stB s k LBR=true then (vLst (itm (k+1)).1,(itm (k+1)).2) else
  if stB s k RNG=true then strP s (k+6) else if stB s k TBO=true then tabP itm s (k+6) else
  if stB s k ERR=true then (vErr (errC (s.extract (k+6).toNat s.size)),s.size) else (vNum (intP s k).1,(intP s k).2)
noncomputable def parF (s:ByteArray):Nat→Int→List D × Int
  | 0,_=>(vNil, -1)
  | n+1,k=>parP (itmP (parF s n) s) s k
def Pos (s:ByteArray) (k:Int) (w:Nat) (e:Int):Prop:=(e = -1∧w=0)∨(k < e∧e≤s.size∧(w:Int)≤2 * (e - k))
theorem w7 (k n st:Int) (tx:ByteArray) (l4 l5 l6:List (List D)):wRow (val7 k n st tx l4 l5 l6)=tx.size+(l4.length+wRows l4)+(l5.length+wRows l5)+(l6.length+wRows l6):=by
  simp only [wRow,wD];omega
theorem w_str (xs:List ByteArray):wRows (strRows xs)=(xs.map (·.size)).sum:=by
  induction xs with
  | nil=>rfl
  | cons x r ih =>
    show wRows ([.s x] :: strRows r)=_
    rw [wRows,ih,List.map_cons,List.sum_cons]
    simp [wRow,wD]
theorem words32_sum:∀ (l:List UInt8),((words32 l).map List.length).sum+(words32 l).length≤l.length+1
  | []=>by decide
  | b :: l=>by
    have ih:=words32_sum l
    have hne:=words32_ne l
    rw [words32]
    split
    · simp only [List.map_cons,List.sum_cons,List.length_nil,List.length_cons];omega
    · split
      · rename_i w ws hw
        rw [hw] at ih
        simp only [List.map_cons,List.sum_cons,List.length_cons] at ih ⊢
        omega
      · rename_i hw
        exact absurd hw hne
theorem words_w (t:ByteArray):(strRows (wordsB t)).length+wRows (strRows (wordsB t))≤t.size+1:=by
  have h:=words32_sum t.data.toList
  rw [w_str,strRows_len]
  have e:((wordsB t).map (·.size))=(words32 t.data.toList).map List.length:=by
    unfold wordsB
    rw [List.map_map]
    rfl
  have e2:(wordsB t).length=(words32 t.data.toList).length:=List.length_map _
  have e3:t.data.toList.length=t.size:=Array.length_toList
  rw [e,e2]
  omega
theorem w_rowOf (v:List D):wRow (rowOfV v)≤wRow v:=by
  have h1:=wRows_cell v 4
  have:wRows ((lst v).map fun y=>[D.i (iAt y 1)])=0:=by
    induction lst v with
    | nil=>rfl
    | cons x r ih=>rw [List.map_cons,wRows,ih];rfl
  unfold rowOfV
  simp only [wRow,wD,this,List.length_map,List.length_nil,wRows]
  unfold lst
  omega
theorem w_rowsOf (l:List (List D)):wRows (l.map rowOfV)≤wRows l:=by
  induction l with
  | nil=>exact Nat.le_refl _
  | cons x r ih =>
    have:=w_rowOf x
    rw [List.map_cons,wRows,wRows]
    omega
theorem strP_pos {s:ByteArray} {k:Int} (h0:0≤k) (h:k≤s.size):Pos s k (wRow (strP s k).1) (strP s k).2:=by
  unfold strP
  repeat' split
  all_goals first
    | exact .inl ⟨rfl,rfl⟩
    | skip
  rename_i h1 h2 h3 h4
  have a1:=intP_pos h0 h
  have a2:=stB_le (by simpa using h2)
  have e1:(COMMA.size:Int)=2:=rfl
  have a3:=intP_pos (s:=s) (k:=(intP s k).2+2) (by omega) (by omega)
  have a4:=stB_le (by simpa using h4)
  have e2:(RPA.size:Int)=1:=rfl
  right
  refine ⟨by show k < _+1;omega,by show _+1≤_;omega,?_⟩
  show ((wRow (vStr _ _):Nat):Int)≤2 * (_+1 - k)
  rw [w7]
  simp only [wRows,List.length_nil]
  show ((0+(0+0)+(0+0)+(0+0):Nat):Int)≤_
  omega
theorem itemsF_pos {par:Int→List D × Int} {s:ByteArray} {k0:Int} (hp:∀ k,k0≤k→k≤s.size→Pos s k (wRow (par k).1) (par k).2) :
    ∀ (m:Nat) (k:Int) (out:List (List D)),k0≤k→k≤s.size→((out.length+wRows out:Nat):Int)≤2 * (k - k0) →
      ((itemsF par s m k out).2 = -1∧(itemsF par s m k out).1=[])∨(k0 < (itemsF par s m k out).2∧(itemsF par s m k out).2≤s.size∧(((itemsF par s m k out).1.length+wRows (itemsF par s m k out).1:Nat):Int)≤2 * ((itemsF par s m k out).2 - k0))
  | 0,_,_,_,_,_=>.inl ⟨rfl,rfl⟩
  | m + 1, k,out,h0,h,hw=>by
    have a:=hp k h0 h
    have hl:(((out++[(par k).1]).length+wRows (out++[(par k).1]):Nat):Int)=((out.length+wRows out:Nat):Int)+1+(wRow (par k).1:Int):=by
      rw [List.length_append,wRows_append]
      simp only [List.length_cons,List.length_nil,wRows]
      omega
    unfold itemsF
    split
    · exact .inl ⟨rfl,rfl⟩
    · rename_i h1
      rcases a with ⟨a,_⟩|⟨a1,a2,a3⟩
      · omega
      split
      · rename_i h2
        have b:=stB_le h2
        have e:(RBR.size:Int)=1:=rfl
        right
        refine ⟨by show _ < _+1;omega,by show _+1≤_;omega,?_⟩
        show (((out++[(par k).1]).length+wRows (out++[(par k).1]):Nat):Int)≤2 * ((par k).2+1 - k0)
        omega
      · split
        · exact .inl ⟨rfl,rfl⟩
        · rename_i h2 h3
          have b:=stB_le (by simpa using h3)
          have e:(COMMA.size:Int)=2:=rfl
          exact itemsF_pos hp m _ _ (by omega) (by omega) (by omega)
theorem itmP_pos {par:Int→List D × Int} {s:ByteArray} {k0:Int} (hp:∀ k,k0≤k→k≤s.size→Pos s k (wRow (par k).1) (par k).2) (h:k0≤s.size) :
    ((itmP par s k0).2 = -1∧(itmP par s k0).1=[])∨(k0 < (itmP par s k0).2∧(itmP par s k0).2≤s.size∧(((itmP par s k0).1.length+wRows (itmP par s k0).1:Nat):Int)≤2 * ((itmP par s k0).2 - k0)):=by
  unfold itmP
  split
  · rename_i h2
    have b:=stB_le h2
    have e:(RBR.size:Int)=1:=rfl
    right
    refine ⟨by show k0 < k0+1;omega,by show k0+1≤_;omega,?_⟩
    show ((0+0:Nat):Int)≤2 * (k0+1 - k0)
    omega
  · exact itemsF_pos hp 64 k0 [] (by omega) h (by show ((0+0:Nat):Int)≤_;omega)
theorem parF_pos (s:ByteArray):∀ (n:Nat) (k:Int),0≤k→k≤s.size→Pos s k (wRow (parF s n k).1) (parF s n k).2
  | 0,_,_,_=>.inl ⟨rfl,rfl⟩
  | n+1,k,h0,h=>by
    have itm:∀ k0,0≤k0→k0≤(s.size:Int)→_:=fun k0 h0 h=>itmP_pos (par:=parF s n) (s:=s) (k0:=k0) (fun k hk hs=>parF_pos s n k (by omega) hs) h
    show Pos s k (wRow (parP (itmP (parF s n) s) s k).1) (parP (itmP (parF s n) s) s k).2
    unfold parP
    split
    · rcases quoP_pos h0 h with ⟨h1,h2⟩|⟨h1,h2,h3⟩
      · refine .inl ⟨h1,?_⟩
        show wRow (vTxt (quoP s k).1)=0
        rw [h2];rfl
      · refine .inr ⟨by show k < (quoP s k).2;omega,h2,?_⟩
        show ((wRow (vTxt (quoP s k).1):Nat):Int)≤2 * ((quoP s k).2 - k)
        rw [w7]
        simp only [wRows,List.length_nil]
        omega
    split
    · rename_i h1
      have b:=stB_le h1
      have e:(LBR.size:Int)=1:=rfl
      rcases itm (k+1) (by omega) (by omega) with ⟨a1,a2⟩|⟨a1,a2,a3⟩
      · refine .inl ⟨a1,?_⟩
        show wRow (vLst (itmP (parF s n) s (k+1)).1)=0
        rw [a2];rfl
      · refine .inr ⟨by show k < (itmP (parF s n) s (k+1)).2;omega,a2,?_⟩
        show ((wRow (vLst (itmP (parF s n) s (k+1)).1):Nat):Int)≤2 * ((itmP (parF s n) s (k+1)).2 - k)
        rw [w7]
        simp only [wRows,List.length_nil]
        have e2:ES.size=0:=rfl
        rw [e2]
        omega
    split
    · rename_i h1
      have b:=stB_le h1
      have e:(RNG.size:Int)=6:=rfl
      rcases strP_pos (s:=s) (k:=k+6) (by omega) (by omega) with ⟨a1,a2⟩|⟨a1,a2,a3⟩
      · exact .inl ⟨a1,a2⟩
      · exact .inr ⟨by omega,a2,by omega⟩
    split
    · rename_i h1
      have b:=stB_le h1
      have e:(TBO.size:Int)=6:=rfl
      unfold tabP
      rcases quoP_pos (s:=s) (k:=k+6) (by omega) (by omega) with ⟨q1,q2⟩|⟨q1,q2,q3⟩
      · rw [if_pos (by omega)];exact .inl ⟨rfl,rfl⟩
      rw [if_neg (by omega)]
      split
      · exact .inl ⟨rfl,rfl⟩
      rename_i c1
      have c2:=stB_le (by simpa using c1)
      have e3:(CLB.size:Int)=3:=rfl
      rcases itm ((quoP s (k+6)).2+3) (by omega) (by omega) with ⟨a1,a2⟩|⟨a1,a2,a3⟩
      · rw [if_pos (by omega)];exact .inl ⟨rfl,rfl⟩
      rw [if_neg (by omega)]
      split
      · exact .inl ⟨rfl,rfl⟩
      rename_i d1
      have d2:=stB_le (by simpa using d1)
      have e4:(RPA.size:Int)=1:=rfl
      generalize hr:itmP (parF s n) s ((quoP s (k+6)).2+3)=r at *
      generalize hq:quoP s (k+6)=q at *
      refine .inr ⟨by show k < r.2+1;omega,by show r.2+1≤_;omega,?_⟩
      show ((wRow (vTbl (strRows (wordsB q.1)) (r.1.map rowOfV)):Nat):Int)≤2 * (r.2+1 - k)
      have w1:=words_w q.1
      have w2:=w_rowsOf r.1
      rw [w7,List.length_map]
      have e2:ES.size=0:=rfl
      rw [e2]
      simp only [wRows,List.length_nil]
      omega
    split
    · rename_i h1
      have b:=stB_le h1
      have e:(ERR.size:Int)=6:=rfl
      refine .inr ⟨by show k < (s.size:Int);omega,Int.le_refl _,?_⟩
      show ((wRow (vErr _):Nat):Int)≤2 * ((s.size:Int) - k)
      rw [w7]
      simp only [wRows,List.length_nil]
      show ((0+(0+0)+(0+0)+(0+0):Nat):Int)≤_
      omega
    · have e0:wRow (vNum (intP s k).1)=0:=by rw [w7];rfl
      show Pos s k (wRow (vNum (intP s k).1)) (intP s k).2
      rw [e0]
      rcases intP_pos h0 h with h1|⟨h1,h2⟩
      · exact .inl ⟨h1,rfl⟩
      · exact .inr ⟨h1,h2,by omega⟩
variable {T:Tab}
def PosIn (s:ByteArray) (k:Int):Prop:=s.size≤1048576∧0≤k∧k≤s.size
def spStarts:FSpec where
  pre args:=∃ (s w:ByteArray) (k:Int),PosIn s k∧w.size≤100∧args=[sArg s,iArg k,sArg w]
  res args:=match args with
    | [.val _ [.s s],.val _ [.i _ k],.val _ [.s w]]=>.val false [.b (stB s k w)]
    | _=>.none
noncomputable def spIntP:FSpec where
  pre args:=∃ (s:ByteArray) (k:Int),PosIn s k∧args=[sArg s,iArg k]
  res args:=match args with
    | [.val _ [.s s],.val _ [.i _ k]]=>.tup [(false,[.i .i64 (intP s k).1]),(false,[.i .i64 (intP s k).2])]
    | _=>.none
def spQuoP:FSpec where
  pre args:=∃ (s:ByteArray) (k:Int),PosIn s k∧args=[sArg s,iArg k]
  res args:=match args with
    | [.val _ [.s s],.val _ [.i _ k]]=>.tup [(false,[.s (quoP s k).1]),(false,[.i .i64 (quoP s k).2])]
    | _=>.none
def spVP (cts:List CT) (ok:ByteArray→Int→Prop) (f:ByteArray→Int→List D × Int):FSpec where
  pre args:=∃ (s:ByteArray) (k:Int),PosIn s k∧ok s k∧args=[sArg s,iArg k]
  res args:=match args with
    | [.val _ [.s s],.val _ [.i _ k]]=>.tup [(true,rowC cts (f s k).1),(false,[.i .i64 (f s k).2])]
    | _=>.none
def spLP (e:TypeId) (ok:ByteArray→Int→Prop) (f:ByteArray→Int→List (List D) × Int):FSpec where
  pre args:=∃ (s:ByteArray) (k:Int),PosIn s k∧ok s k∧args=[sArg s,iArg k]
  res args:=match args with
    | [.val _ [.s s],.val _ [.i _ k]]=>.tup [(false,[.sl false e (f s k).1]),(false,[.i .i64 (f s k).2])]
    | _=>.none
def spMk1 (cts:List CT) (f:Int→List D):FSpec where
  pre args:=∃ n:Int,args=[iArg n]
  res args:=match args with
    | [.val _ [.i _ n]]=>.val true (rowC cts (f n))
    | _=>.none
def spMkT (cts:List CT) (f:ByteArray→List D):FSpec where
  pre args:=∃ t:ByteArray,args=[sArg t]
  res args:=match args with
    | [.val _ [.s t]]=>.val true (rowC cts (f t))
    | _=>.none
def spMk2 (cts:List CT) (f:Int→Int→List D):FSpec where
  pre args:=∃ n m:Int,args=[iArg n,iArg m]
  res args:=match args with
    | [.val _ [.i _ n],.val _ [.i _ m]]=>.val true (rowC cts (f n m))
    | _=>.none
def spErrC:FSpec where
  pre args:=∃ t:ByteArray,args=[sArg t]
  res args:=match args with
    | [.val _ [.s t]]=>.val false [.i .i64 (errC t)]
    | _=>.none
theorem wr64 {x:Int} (h0:-1099511627776≤x) (h1:x≤1099511627776):IntKind.i64.wrap x=x:=by
  rw [IntKind.wrap_i64];omega
theorem posK {s:ByteArray} {k:Int} (h:PosIn s k) (c:Int) (h0:0≤c) (h1:c≤100):IntKind.i64.wrap (k+c)=k+c:=by
  obtain ⟨a,b,d⟩:=h
  exact wr64 (by omega) (by omega)
theorem resV {cts:List CT} {p q:List D × Int} {cs:List CV} {e:Int} (h:q=p) (hc:cs=rowC cts p.1) (he:e=p.2):[(true,cs),(false,[CV.i .i64 e])]=[(true,rowC cts q.1),(false,[CV.i .i64 q.2])]:=by
  subst h hc he;rfl
theorem resL {e:TypeId} {p q:List (List D) × Int} {r:List (List D)} {k:Int} (h:q=p) (hr:r=p.1) (he:k=p.2):[(false,[CV.sl false e r]),(false,[CV.i .i64 k])]=[(false,[CV.sl false e q.1]),(false,[CV.i .i64 q.2])]:=by
  subst h hr he;rfl
theorem resII {p q:Int × Int} {a b:Int} (h:q=p) (ha:a=p.1) (hb:b=p.2):[(false,[CV.i .i64 a]),(false,[CV.i .i64 b])]=[(false,[CV.i .i64 q.1]),(false,[CV.i .i64 q.2])]:=by
  subst h ha hb;rfl
theorem resTI {p q:ByteArray × Int} {a:ByteArray} {b:Int} (h:q=p) (ha:a=p.1) (hb:b=p.2):[(false,[CV.s a]),(false,[CV.i .i64 b])]=[(false,[CV.s q.1]),(false,[CV.i .i64 q.2])]:=by
  subst h ha hb;rfl
theorem st_T {s w:ByteArray} {k:Int} {x y:Int} (hx:x=(s.size:Int) - k) (hy:y=k+(w.size:Int)) (h:decide (x ≥ (w.size:Int))=true):((s.extract k.toNat y.toNat).toList == w.toList)=stB s k w:=by
  subst hx hy;unfold stB;rw [h];rfl
theorem st_F {s w:ByteArray} {k:Int} {x:Int} (hx:x=(s.size:Int) - k) (h:decide (x ≥ (w.size:Int))=false):false=stB s k w:=by
  subst hx;unfold stB;rw [h];rfl
theorem int_no {s:ByteArray} {k:Int} (h:(!(prsN s k.toNat).2)=true):intP s k=(0, -1):=by
  unfold intP
  rw [if_neg (by rw [of_notT h];decide)]
theorem int_yes {s:ByteArray} {k:Int} (h:(!(prsN s k.toNat).2)=false):intP s k=((prsN s k.toNat).1,(numE s k.toNat:Int)):=by
  unfold intP
  rw [if_pos (of_notF h)]
theorem quo_1 {s:ByteArray} {k:Int} (h:(!stB s k QUO)=true):quoP s k=(ES, -1):=by
  unfold quoP
  rw [if_neg (by rw [of_notT h];decide)]
theorem quo_2 {s:ByteArray} {k:Int} (h:(!stB s k QUO)=false) (he:((quoE s k:Int) == (s.size:Int))=true):quoP s k=(ES, -1):=by
  unfold quoP
  rw [if_pos (of_notF h),if_pos (by have:=eq_of_beq he;omega)]
theorem quo_3 {s:ByteArray} {k:Int} (h:(!stB s k QUO)=false) (he:((quoE s k:Int) == (s.size:Int))=false):quoP s k=(s.extract (k.toNat+1) (quoE s k),(quoE s k:Int)+1):=by
  unfold quoP
  rw [if_pos (of_notF h),if_neg (by rw [beq_eq_false_iff_ne] at he;omega)]
theorem strP_1 {s:ByteArray} {k:Int} (h:decide ((intP s k).2 < 0)=true):strP s k=(vNil, -1):=by
  unfold strP
  rw [if_pos (of_decide_eq_true h)]
theorem strP_2 {s:ByteArray} {k:Int} (h:decide ((intP s k).2 < 0)=false) (h2:(!stB s (intP s k).2 COMMA)=true):strP s k=(vNil, -1):=by
  unfold strP
  rw [if_neg (of_decide_eq_false h),if_pos (of_notT h2)]
theorem strP_3 {s:ByteArray} {k y:Int} (hy:y=(intP s k).2+2) (h:decide ((intP s k).2 < 0)=false) (h2:(!stB s (intP s k).2 COMMA)=false) (h3:decide ((intP s y).2 < 0)=true):strP s k=(vNil, -1):=by
  subst hy
  unfold strP
  rw [if_neg (of_decide_eq_false h),if_neg (by rw [of_notF h2];decide),if_pos (of_decide_eq_true h3)]
theorem strP_4 {s:ByteArray} {k y:Int} (hy:y=(intP s k).2+2) (h:decide ((intP s k).2 < 0)=false) (h2:(!stB s (intP s k).2 COMMA)=false) (h3:decide ((intP s y).2 < 0)=false) (h4:(!stB s (intP s y).2 RPA)=true):strP s k=(vNil, -1):=by
  subst hy
  unfold strP
  rw [if_neg (of_decide_eq_false h),if_neg (by rw [of_notF h2];decide),if_neg (of_decide_eq_false h3),if_pos (of_notT h4)]
theorem strP_5 {s:ByteArray} {k y:Int} (hy:y=(intP s k).2+2) (h:decide ((intP s k).2 < 0)=false) (h2:(!stB s (intP s k).2 COMMA)=false) (h3:decide ((intP s y).2 < 0)=false) (h4:(!stB s (intP s y).2 RPA)=false):strP s k=(vStr (intP s k).1 (intP s y).1,(intP s y).2+1):=by
  subst hy
  unfold strP
  rw [if_neg (of_decide_eq_false h),if_neg (by rw [of_notF h2];decide),if_neg (of_decide_eq_false h3),if_neg (by rw [of_notF h4];decide)]
theorem posC {s:ByteArray} {k:Int} (h:PosIn s k) {w:ByteArray} (hw:w.size≤100) (hs:stB s k w=true):IntKind.i64.wrap (k+(w.size:Int))=k+(w.size:Int)∧PosIn s (k+(w.size:Int)):=by
  have:=stB_le hs
  obtain ⟨a,b,d⟩:=h
  exact ⟨wr64 (by omega) (by omega),a,by omega,by omega⟩
theorem int_in {s:ByteArray} {k:Int} (h:PosIn s k) (hn:decide ((intP s k).2 < 0)=false):PosIn s (intP s k).2:=by
  have:=of_decide_eq_false hn
  obtain ⟨a,b,d⟩:=h
  rcases intP_pos b d with h1|h1
  · omega
  · exact ⟨a,by omega,h1.2⟩
theorem quo_in {s:ByteArray} {k:Int} (h:PosIn s k) (hn:decide ((quoP s k).2 < 0)=false):PosIn s (quoP s k).2:=by
  have:=of_decide_eq_false hn
  obtain ⟨a,b,d⟩:=h
  rcases quoP_pos b d with h1|h1
  · omega
  · exact ⟨a,by omega,h1.2.1⟩
theorem sgn_y {s:ByteArray} {k:Nat} (h:k < s.size) (hb:(bAt s k == 45)=true):sgnK s k=k+1:=if_pos ⟨h,eq_of_beq hb⟩
theorem sgn_n1 {s:ByteArray} {k:Nat} (h:¬ k < s.size):sgnK s k=k:=if_neg fun x=>h x.1
theorem sgn_n2 {s:ByteArray} {k:Nat} (hb:(bAt s k == 45)=false):sgnK s k=k:=if_neg fun x=>by rw [x.2] at hb;cases hb
theorem dig_y {s:ByteArray} {k:Nat} (h1:decide (bAt s k ≥ 48)=true) (h2:decide (bAt s k≤57)=true):digB (bAt s k)=true:=by unfold digB;rw [h1,h2];rfl
theorem dig_n1 {s:ByteArray} {k:Nat} (h1:decide (bAt s k ≥ 48)=false):digB (bAt s k)=false:=by unfold digB;rw [h1];rfl
theorem dig_n2 {s:ByteArray} {k:Nat} (h2:decide (bAt s k≤57)=false):digB (bAt s k)=false:=by unfold digB;rw [h2];simp
theorem err_0 {t:ByteArray} (h:(t.toList == (⟨#[]⟩:ByteArray).toList)=true):0=errC t:=by
  rw [nil_toList] at h
  unfold errC
  rw [if_pos (eq_of_beq h)]
theorem err_1 {t:ByteArray} (h:(t.toList == (⟨#[]⟩:ByteArray).toList)=false):max 0 (idxT (strRows errs) t)=errC t:=by
  rw [nil_toList,beq_eq_false_iff_ne] at h
  unfold errC
  rw [if_neg h]
end Go.Proofs.YtppgalpldaibhaaGreatDoor.Ab
