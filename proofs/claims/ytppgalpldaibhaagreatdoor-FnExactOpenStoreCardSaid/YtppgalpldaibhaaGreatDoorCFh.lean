/- Operations, in plain Lean: when they are valid; their numbers; their words. And what belongs to it. -/
import Derived.Test.YtppgalpldaibhaaGreatDoorCQa
import Derived.Lib.HexFns2
import Derived.Lib.SplitLaws
import Derived.Lib.IndexLaws
import Derived.Lib.CountLaws
import Derived.Lib.IndexBytes
import Derived.Test.YtppgalpldaibhaaGreatDoorCTa
import Derived.IntWalk
namespace Go.Proofs.YtppgalpldaibhaaGreatDoor.Ab
open Go.RowKit
set_option linter.unusedVariables false
def intOf (r:List D):Int:=(r.getD 0 default).int
def seenB (rows:List (List D)):Bool:=rows.all (fun r=>inR (intOf r) 0 60) && decide (rows.length=3)
def noEdit (a:List D):Bool:=(a.getD 4 default).int == 0 && ((a.getD 5 default).int == 0 && ((a.getD 6 default).int == 0 && ((a.getD 7 default).int == 0 && ((a.getD 8 default).int == 0 && ((a.getD 9 default).str.toList == (⟨#[]⟩:ByteArray).toList && ((a.getD 10 default).str.toList == (⟨#[]⟩:ByteArray).toList && (a.getD 11 default).int == 0))))))
def noNames (a:List D):Bool:=(a.getD 12 default).str.toList == (⟨#[]⟩:ByteArray).toList && (a.getD 13 default).str.toList == (⟨#[]⟩:ByteArray).toList
def noTape (a:List D):Bool:=(a.getD 14 default).int == 0 && ((a.getD 15 default).int == 0 && ((a.getD 16 default).rows.length:Int) == 0)
def okOp (a:List D):Bool:=inR (a.getD 0 default).int 1 300 && (inR (a.getD 1 default).int 0 2 && (seenB (a.getD 3 default).rows && (inR (a.getD 2 default).int 1 3 &&
  (if (a.getD 2 default).int=1 then noNames a && noTape a else if (a.getD 2 default).int=2 then noEdit a && noTape a else noEdit a && noNames a))))
def spSeen:FSpec where
  pre args:=∃ rows:List (List D),args=[argS 3 rows]
  res args:=match args with
    | [.val _ [.sl _ _ rows]]=>.val false [.b (seenB rows)]
    | _=>.none
def spOp (T:Tab) (cts:List CT):FSpec where
  pre args:=∃ a:List D,WfRow T cts a∧args=[argG cts a]
  res args:=match args with
    | [.val _ cs]=>.val false [.b (okOp (csD cs))]
    | _=>.none
theorem all_next {p:List D→Bool} {rows:List (List D)} {i:Int} (h0:0≤i) (hi:i < rows.length) (h:(rows.take i.toNat).all p=true) (hp:p (rows.getD i.toNat [])=true):(rows.take (i+1).toNat).all p=true:=by
  have e:(i+1).toNat=i.toNat+1:=by omega
  rw [e,List.take_add_one,row_at h0 hi,List.all_append,h]
  simpa using hp
theorem all_stop {p:List D→Bool} {rows:List (List D)} {i:Int} (h0:0≤i) (hi:i < rows.length) (hp:p (rows.getD i.toNat [])=false):rows.all p=false:=by
  rw [List.all_eq_false]
  refine ⟨rows.getD i.toNat [],?_,by rw [hp];simp⟩
  exact List.mem_of_getElem? (row_at h0 hi)
theorem all_end {p:List D→Bool} {rows:List (List D)} {i:Int} (h0:0≤i) (hi:i≤rows.length) (hn:decide (i < (rows.length:Int))=false) (h:(rows.take i.toNat).all p=true):rows.all p=true:=by
  have hn' : ¬ i < (rows.length:Int):=by simpa using hn
  have:i.toNat=rows.length:=by omega
  rwa [this,List.take_length] at h
theorem okOp_rowC {cts:List CT} {a:List D} (wa:WfRow T cts a):okOp (csD (rowC cts a))=okOp a:=by rw [csD_rowC wa]
def numRow (r:List D):Bool:=inR (intOf r) (-1000000000) 1000000000
abbrev numI (x:Int):List D:=[.i x]
abbrev numW (x:Int):List D:=[.s (itoaB x)]
abbrev encW (x:ByteArray):List D:=[.s (encB x)]
abbrev ints (a:List D) (js:List Nat):List (List D):=js.map fun j=>numI (a.getD j default).int
def opNums (a:List D):List (List D):=ints a [0,1,2]++(a.getD 3 default).rows++ints a [4,5,6,7,8,11]
def rdNums (r:List D):List (List D):=ints r [0,1,2]
abbrev rds (a:List D):List (List D):=(a.getD 16 default).rows
def opNumsTo (a:List D) (i:Nat):List (List D):=opNums a++ints a [14,15]++((rds a).take i).flatMap rdNums
def goodRd (r:List D):Bool:=((r.getD 4 default).int == 1 || (r.getD 4 default).int == 6) && okVal (sub r 4 7)
def goodOp (a:List D):Bool:=(rds a).all goodRd && ((opNumsTo a (rds a).length).all numRow && okOp a)
def rowW (r:List D):List D:=numW (intOf r)
def rdWords (r:List D):List (List D):=[numW (r.getD 0 default).int,numW (r.getD 1 default).int,numW (r.getD 2 default).int,encW (r.getD 3 default).str,encW (fmtVal (sub r 4 7))]
def opWords1 (a:List D):List (List D):=(opNums a).map rowW++[encW (a.getD 9 default).str,encW (a.getD 10 default).str,encW (a.getD 12 default).str,encW (a.getD 13 default).str]
def opWords2 (a:List D):List (List D):=opWords1 a++[numW (a.getD 14 default).int,numW (a.getD 15 default).int,numW ((rds a).length:Int)]
def opWordsTo (a:List D) (i:Nat):List (List D):=opWords2 a++((rds a).take i).flatMap rdWords
def opText (a:List D):ByteArray:=if goodOp a then joinT (strsOf (opWordsTo a (rds a).length)) ⟨#[32]⟩ else ⟨#[]⟩
def SmO (a:List D):Prop:=(a.getD 3 default).rows.length≤1048576∧(rds a).length≤1048576∧((a.getD 9 default).str.size≤1048576∧(a.getD 10 default).str.size≤1048576∧(a.getD 12 default).str.size≤1048576∧(a.getD 13 default).str.size≤1048576) ∧
  ∀ i,i < (rds a).length→(((rds a).getD i []).getD 3 default).str.size≤1048576∧(((rds a).getD i []).getD 9 default).rows.length+(((rds a).getD i []).getD 10 default).rows.length≤2097152
theorem opNums_length (a:List D):(opNums a).length=(a.getD 3 default).rows.length+9:=by simp [opNums,ints]
theorem flat_len (f:List D→List (List D)) (k:Nat) (h:∀ r,(f r).length=k) (l:List (List D)):(l.flatMap f).length=k * l.length:=by
  induction l with
  | nil=>rfl
  | cons r l ih=>rw [List.flatMap_cons,List.length_append,ih,h,List.length_cons,Nat.mul_add,Nat.mul_one,Nat.add_comm]
theorem opNumsTo_length {a:List D} {i:Nat} (hi:i≤(rds a).length):(opNumsTo a i).length=(a.getD 3 default).rows.length+11+3 * i:=by
  simp only [opNumsTo,List.length_append,opNums_length,flat_len rdNums 3 (fun _=>rfl),List.length_take,ints,List.length_map,List.length_cons,List.length_nil,Nat.min_eq_left hi]
theorem opWords1_length (a:List D):(opWords1 a).length=(a.getD 3 default).rows.length+13:=by simp [opWords1,opNums_length]
theorem opWords2_length (a:List D):(opWords2 a).length=(a.getD 3 default).rows.length+16:=by simp [opWords2,opWords1_length]
theorem opWordsTo_length {a:List D} {i:Nat} (hi:i≤(rds a).length):(opWordsTo a i).length=(a.getD 3 default).rows.length+16+5 * i:=by
  simp only [opWordsTo,List.length_append,opWords2_length,flat_len rdWords 5 (fun _=>rfl),List.length_take,Nat.min_eq_left hi]
theorem flat_next {f:List D→List (List D)} {rows:List (List D)} {i:Int} (h0:0≤i) (hi:i < rows.length):(rows.take (i+1).toNat).flatMap f=(rows.take i.toNat).flatMap f++f (rows.getD i.toNat []):=by
  have e:(i+1).toNat=i.toNat+1:=by omega
  rw [e,List.take_add_one,row_at h0 hi,List.flatMap_append]
  simp
theorem map_next {f:List D→List D} {rows:List (List D)} {i:Int} (h0:0≤i) (hi:i < rows.length):(rows.take (i+1).toNat).map f=(rows.take i.toNat).map f++[f (rows.getD i.toNat [])]:=by
  have e:(i+1).toNat=i.toNat+1:=by omega
  rw [e,List.take_add_one,row_at h0 hi,List.map_append]
  simp
theorem opNumsTo_next {a:List D} {i:Int} (h0:0≤i) (hi:i < (rds a).length):opNumsTo a i.toNat++rdNums ((rds a).getD i.toNat [])=opNumsTo a (i+1).toNat:=by
  rw [opNumsTo,opNumsTo,flat_next h0 hi,List.append_assoc]
theorem opWordsTo_next {a:List D} {i:Int} (h0:0≤i) (hi:i < (rds a).length):opWordsTo a i.toNat++rdWords ((rds a).getD i.toNat [])=opWordsTo a (i+1).toNat:=by
  rw [opWordsTo,opWordsTo,flat_next h0 hi,List.append_assoc]
theorem decDigits_le:∀ (k u:Nat),u < 10 ^ (k+1)→(Lib.decDigits u).length≤k+1
  | 0,u,h=>by
    rw [Lib.decDigits,dif_pos (by simpa using h)]
    simp
  | k+1,u,h=>by
    rw [Lib.decDigits]
    split
    · simp
    · have:=decDigits_le k (u / 10) (by rw [Nat.div_lt_iff_lt_mul (by decide)];rw [Nat.pow_succ] at h;exact h)
      rw [List.length_append,List.length_singleton]
      omega
theorem itoaB_small {n:Int} (h:inR n (-1000000000) 1000000000=true):(itoaB n).size≤11:=by
  simp only [inR,Bool.and_eq_true,decide_eq_true_eq] at h
  show (Lib.itoa n).toArray.size≤_
  rw [List.size_toArray]
  unfold Lib.itoa
  split
  · have:=decDigits_le 9 n.natAbs (by simp only [Nat.reduceAdd,Nat.reducePow];omega)
    rw [List.length_cons]
    omega
  · have:=decDigits_le 9 n.toNat (by simp only [Nat.reduceAdd,Nat.reducePow];omega)
    omega
theorem joinTail_len (sep:List UInt8) (M:Nat):∀ (xs:List (List UInt8)),(∀ x ∈ xs,x.length≤M)→(Lib.joinTail sep xs).length≤xs.length * (M+sep.length)
  | [],_=>Nat.zero_le _
  | x :: xs,h=>by
    have ih:=joinTail_len sep M xs (fun y hy=>h y (List.mem_cons_of_mem _ hy))
    have hx:=h x (List.mem_cons_self ..)
    have:Lib.joinTail sep (x :: xs)=sep++x++Lib.joinTail sep xs:=by simp [Lib.joinTail]
    rw [this,List.length_append,List.length_append,List.length_cons,Nat.add_mul,Nat.one_mul]
    omega
theorem joinT_len {xs:List ByteArray} {sep:ByteArray} {M:Nat} (h:∀ x ∈ xs,x.size≤M):(joinT xs sep).size≤xs.length * (M+sep.size):=by
  show (Lib.join (xs.map (·.data.toList)) sep.data.toList).toArray.size≤_
  rw [List.size_toArray]
  have hs:sep.data.toList.length=sep.size:=by rw [Array.length_toList];rfl
  cases xs with
  | nil=>exact Nat.zero_le _
  | cons x xs =>
    have hx:x.data.toList.length≤M:=by rw [Array.length_toList];exact h x (List.mem_cons_self ..)
    have:=joinTail_len sep.data.toList M (xs.map (·.data.toList)) (fun y hy=>by
      obtain ⟨z,hz,rfl⟩:=List.mem_map.1 hy
      rw [Array.length_toList];exact h z (List.mem_cons_of_mem _ hz))
    rw [hs,List.length_map] at this
    have hj:Lib.join ((x :: xs).map (·.data.toList)) sep.data.toList=x.data.toList++Lib.joinTail sep.data.toList (xs.map (·.data.toList)):=Lib.join_cons _ _ _
    rw [hj,List.length_append,List.length_cons,Nat.add_mul,Nat.one_mul]
    omega
def wordOk (M:Nat) (r:List D):Prop:=(r.getD 0 default).str.size≤M
theorem fmtVal_size {a:List D} (h:okVal a=true) (hk:(a.getD 0 default).int=1∨(a.getD 0 default).int=6):(fmtVal a).size≤15:=by
  rcases hk with h1|h6
  · rw [fmt_num h1]
    simp only [okVal,h1,if_true,Bool.and_eq_true] at h
    have hn:inR (a.getD 1 default).int (-1000000000) 1000000000=true:=by simp_all
    have:=itoaB_small hn
    omega
  · rw [fmt_err h6,ByteArray.size_append]
    have:=errB_size (a.getD 1 default).int
    show 6+_≤_
    omega
theorem goodRd_kind {r:List D} (h:goodRd r=true):((sub r 4 7).getD 0 default).int=1∨((sub r 4 7).getD 0 default).int=6:=by
  simp only [goodRd,Bool.and_eq_true,Bool.or_eq_true,beq_iff_eq] at h
  exact h.1
theorem goodRd_val {r:List D} (h:goodRd r=true):okVal (sub r 4 7)=true:=by
  simp only [goodRd,Bool.and_eq_true] at h
  exact h.2
theorem opText_size {a:List D} (hs:SmO a) (hg:goodOp a=true):(joinT (strsOf (opWordsTo a (rds a).length)) ⟨#[32]⟩).size≤140737488355328:=by
  have hl:(strsOf (opWordsTo a (rds a).length)).length=(a.getD 3 default).rows.length+16+5 * (rds a).length:=by rw [strsOf,List.length_map,opWordsTo_length (Nat.le_refl _)]
  simp only [goodOp,Bool.and_eq_true] at hg
  have hw:∀ r ∈ opWordsTo a (rds a).length,wordOk 2097153 r:=by
    have nums:∀ r ∈ opNumsTo a (rds a).length,(itoaB (intOf r)).size≤2097153:=fun r hr=>Nat.le_trans (itoaB_small (List.all_eq_true.1 hg.2.1 r hr)) (by decide)
    have enc:∀ s:ByteArray,s.size≤1048576→(encB s).size≤2097153:=fun s h=>by have:=encB_size s;omega
    have n14:(itoaB (a.getD 14 default).int).size≤2097153:=nums (numI (a.getD 14 default).int) (by simp [opNumsTo,ints])
    have n15:(itoaB (a.getD 15 default).int).size≤2097153:=nums (numI (a.getD 15 default).int) (by simp [opNumsTo,ints])
    have nl:(itoaB ((rds a).length:Int)).size≤2097153:=Nat.le_trans (itoaB_small (by have:=hs.2.1;simp only [inR,Bool.and_eq_true,decide_eq_true_eq];omega)) (by decide)
    intro r hr
    unfold opWordsTo opWords2 opWords1 at hr
    rcases List.mem_append.1 hr with hr|hr
    · rcases List.mem_append.1 hr with hr|hr
      · rcases List.mem_append.1 hr with hr|hr
        · obtain ⟨x,hx,rfl⟩:=List.mem_map.1 hr
          exact nums x (by unfold opNumsTo;exact List.mem_append_left _ (List.mem_append_left _ hx))
        · simp only [List.mem_cons,List.not_mem_nil,or_false] at hr
          rcases hr with rfl|rfl|rfl|rfl
          · exact enc _ hs.2.2.1.1
          · exact enc _ hs.2.2.1.2.1
          · exact enc _ hs.2.2.1.2.2.1
          · exact enc _ hs.2.2.1.2.2.2
      · simp only [List.mem_cons,List.not_mem_nil,or_false] at hr
        rcases hr with rfl|rfl|rfl
        · exact n14
        · exact n15
        · exact nl
    · rw [List.take_length] at hr
      obtain ⟨x,hx,hr⟩:=List.mem_flatMap.1 hr
      have hgx:=List.all_eq_true.1 hg.1 x hx
      obtain ⟨i,hi,he⟩:=List.mem_iff_getElem.1 hx
      have hb:=hs.2.2.2 i hi
      rw [show (rds a).getD i []=x by rw [List.getD_eq_getElem?_getD,List.getElem?_eq_getElem hi,he];rfl] at hb
      have hin:∀ j,j=0∨j=1∨j=2→(itoaB (x.getD j default).int).size≤2097153:=fun j hj=>nums (numI (x.getD j default).int) (by
        unfold opNumsTo
        refine List.mem_append_right _ ?_
        rw [List.take_length]
        refine List.mem_flatMap.2 ⟨x,hx,?_⟩
        rcases hj with rfl|rfl|rfl <;> simp [rdNums,ints])
      simp only [rdWords,List.mem_cons,List.not_mem_nil,or_false] at hr
      rcases hr with rfl|rfl|rfl|rfl|rfl
      · exact hin 0 (.inl rfl)
      · exact hin 1 (.inr (.inl rfl))
      · exact hin 2 (.inr (.inr rfl))
      · exact enc _ hb.1
      · exact enc _ (Nat.le_trans (fmtVal_size (goodRd_val hgx) (goodRd_kind hgx)) (by decide))
  have:=joinT_len (xs:=strsOf (opWordsTo a (rds a).length)) (sep:=⟨#[32]⟩) (M:=2097153) (fun x hx=>by
    obtain ⟨r,hr,rfl⟩:=List.mem_map.1 hx
    exact hw r hr)
  have h1:=hs.1
  have h2:=hs.2.1
  rw [hl] at this
  refine Nat.le_trans this (Nat.le_trans (Nat.mul_le_mul (show _≤1048576+16+5 * 1048576 by omega) (Nat.le_refl _)) (by decide))
theorem flag_app {p:List D→Bool} {xs ys:List (List D)}:(!(xs.all p) || !(ys.all p))=!((xs++ys).all p):=by rw [List.all_append,Bool.not_and]
def numFl (a:List D) (i:Nat):Bool:=!((opNumsTo a i).all numRow)
theorem numFl_zero {a:List D} (h:(rds a).length≤1048576):(!((opNums a).all numRow) || !(([numI (a.getD 14 default).int,numI (a.getD 15 default).int,numI ((rds a).length:Int)]:List (List D)).all numRow))=numFl a 0:=by
  have hn:numRow (numI ((rds a).length:Int))=true:=by
    show inR ((rds a).length:Int) (-1000000000) 1000000000=true
    simp only [inR,Bool.and_eq_true,decide_eq_true_eq]
    omega
  rw [flag_app,numFl,opNumsTo,List.take_zero,List.flatMap_nil,List.append_nil,List.all_append,List.all_append]
  simp only [List.all_cons,List.all_nil,hn,ints,List.map_cons,List.map_nil,Bool.and_true]
theorem numFl_next {a:List D} {i:Int} (h0:0≤i) (hi:i < (rds a).length):(numFl a i.toNat || !((rdNums ((rds a).getD i.toNat [])).all numRow))=numFl a (i+1).toNat:=by
  rw [numFl,flag_app,opNumsTo_next h0 hi]
  rfl
theorem opWords1_eq (a:List D):opWords1 a=(ints a [0,1,2]).map rowW++(a.getD 3 default).rows.map rowW++(ints a [4,5,6,7,8,11]).map rowW++[encW (a.getD 9 default).str,encW (a.getD 10 default).str,encW (a.getD 12 default).str,encW (a.getD 13 default).str]:=by
  rw [opWords1,opNums,List.map_append,List.map_append]
theorem txt4 {a b c d:ByteArray} {M:Nat} (ha:a.size≤M) (hb:b.size≤M) (hc:c.size≤M) (hd:d.size≤M):∀ i,i < ([[.s a],[.s b],[.s c],[.s d]]:List (List D)).length→((([[.s a],[.s b],[.s c],[.s d]]:List (List D)).getD i []).getD 0 default).str.size≤M
  | 0,_=>ha
  | 1,_=>hb
  | 2,_=>hc
  | 3,_=>hd
  | i+4,h=>absurd h (by simp)
theorem txt2 {a b:ByteArray} {M:Nat} (ha:a.size≤M) (hb:b.size≤M):∀ i,i < ([[.s a],[.s b]]:List (List D)).length→((([[.s a],[.s b]]:List (List D)).getD i []).getD 0 default).str.size≤M
  | 0,_=>ha
  | 1,_=>hb
  | i+2,h=>absurd h (by simp)
def spNums (T:Tab) (cts:List CT):FSpec where
  pre args:=∃ a:List D,WfRow T cts a∧SmO a∧args=[argG cts a]
  res args:=match args with
    | [.val _ cs]=>.val false [.sl true 3 (opNums (csD cs))]
    | _=>.none
def spGood (T:Tab) (cts:List CT):FSpec where
  pre args:=∃ a:List D,WfRow T cts a∧SmO a∧args=[argG cts a]
  res args:=match args with
    | [.val _ cs]=>.val false [.b (goodOp (csD cs))]
    | _=>.none
def spOpT (T:Tab) (cts:List CT):FSpec where
  pre args:=∃ a:List D,WfRow T cts a∧SmO a∧args=[argG cts a]
  res args:=match args with
    | [.val _ cs]=>.val false [.s (opText (csD cs))]
    | _=>.none
def spWNum (e:TypeId):FSpec where
  pre args:=∃ (ws nums:List (List D)) (b:Bool),(ws.length+nums.length) * 16≤140737488355328∧args=[.tup [(true,[.sl true e ws,.b b])],argS 3 nums]
  bx:=true
  res _:=.tup []
  upd args:=match args with
    | [.tup [(_,[.sl _ e ws,.b b])],.val _ [.sl _ _ nums]]=>[.sl true e (ws++nums.map rowW),.b (b || !nums.all numRow)]
    | _=>[]
def rowE (r:List D):List D:=encW (r.getD 0 default).str
def spWText (e:TypeId):FSpec where
  pre args:=∃ (ws txts:List (List D)) (b:Bool),(ws.length+txts.length) * 16≤140737488355328∧(∀ i,i < txts.length→((txts.getD i []).getD 0 default).str.size≤70368744177664)∧args=[.tup [(true,[.sl true e ws,.b b])],argS 9 txts]
  bx:=true
  res _:=.tup []
  upd args:=match args with
    | [.tup [(_,[.sl _ e ws,.b b])],.val _ [.sl _ _ txts]]=>[.sl true e (ws++txts.map rowE),.b b]
    | _=>[]
end Go.Proofs.YtppgalpldaibhaaGreatDoor.Ab
namespace Go.Proofs.YtppgalpldaibhaaGreatDoor
open Go.Lib
def dg (c:UInt8):Nat:=if 48≤c.toNat∧c.toNat≤57 then c.toNat - 48 else if 97≤c.toNat∧c.toNat≤102 then c.toNat - 97+10 else 0
theorem dg_le (c:UInt8):dg c≤15:=by unfold dg;split <;> (try split) <;> omega
def pairs:List UInt8→List UInt8
  | p :: q :: t=>UInt8.ofNat (16 * dg p+dg q) :: pairs t
  | _=>[]
def encS (l:List UInt8):List UInt8:=if l=[] then [45] else Hx.encode l
def decR (l:List UInt8):List UInt8 × Bool:=if encS (pairs l)=l then (pairs l,true) else ([],false)
def isOk:Hx.Out→Bool
  | .ok=>true
  | _=>false
def decI (l:List UInt8):List UInt8 × Bool :=
  if l=[45] then ([],true) else if isOk (Hx.decode l).2=true∧encS (Hx.decode l).1=l then ((Hx.decode l).1,true) else ([],false)
theorem dg_digit (n:Nat) (h:n < 16):dg (Hx.digit n)=n:=by
  have:∀ n:Fin 16,dg (Hx.digit n.val)=n.val:=by decide
  exact this ⟨n,h⟩
set_option maxRecDepth 100000 in
theorem v_digit (n:Nat) (h:n < 16):Hx.v (Hx.digit n)=n:=by
  have:∀ n:Fin 16,Hx.v (Hx.digit n.val)=n.val:=by decide
  exact this ⟨n,h⟩
theorem byte_halves (b:UInt8):UInt8.ofNat (16 * (b.toNat / 16)+b.toNat % 16)=b:=by
  rw [show 16 * (b.toNat / 16)+b.toNat % 16=b.toNat by omega];simp
theorem pairs_encode:∀ l:List UInt8,pairs (Hx.encode l)=l
  | []=>rfl
  | b :: t=>by
    have hb:=b.toNat_lt
    rw [Hx.encode_cons,pairs,dg_digit _ (by omega),dg_digit _ (by omega),byte_halves,pairs_encode t]
theorem decode_encode:∀ l:List UInt8,Hx.decode (Hx.encode l)=(l,.ok)
  | []=>Hx.decode_nil
  | b :: t=>by
    have hb:=b.toNat_lt
    rw [Hx.encode_cons,Hx.decode_two,v_digit _ (by omega),v_digit _ (by omega),if_neg (by omega),if_neg (by omega),decode_encode t,
      show b.toNat / 16 * 16+b.toNat % 16=16 * (b.toNat / 16)+b.toNat % 16 by omega,byte_halves]
theorem encS_ne {l m:List UInt8} (h:encS m=l) (hl:l ≠ [45]):m ≠ []∧Hx.encode m=l:=by
  unfold encS at h
  split at h
  · exact absurd h.symm hl
  · exact ⟨by assumption,h⟩
theorem dec_same (l:List UInt8):decI l=decR l:=by
  unfold decI decR
  by_cases hl:l=[45]
  · subst hl;rfl
  · rw [if_neg hl]
    by_cases h:encS (pairs l)=l
    · obtain ⟨hm,he⟩:=encS_ne h hl
      have hd:Hx.decode l=(pairs l,.ok):=by rw [← he,decode_encode,he]
      rw [if_pos h,hd,if_pos ⟨rfl,h⟩]
    · rw [if_neg h,if_neg]
      rintro ⟨_,h2⟩
      obtain ⟨hm,he⟩:=encS_ne h2 hl
      have hp:pairs l=(Hx.decode l).1:=by rw [← he,pairs_encode,he]
      exact h (by rw [hp];exact h2)
theorem pairs_length:∀ l:List UInt8,(pairs l).length=l.length / 2
  | []=>rfl
  | [_]=>by simp [pairs]
  | _ :: _ :: t=>by
    have:=pairs_length t
    simp only [pairs,List.length_cons]
    omega
theorem pairs_append:∀ (a:List UInt8) (p q:UInt8),a.length % 2=0→pairs (a++[p,q])=pairs a++[UInt8.ofNat (16 * dg p+dg q)]
  | [],_,_,_=>rfl
  | [x],_,_,h=>by simp at h
  | x :: y :: t,p,q,h=>by
    have:=pairs_append t p q (by simp only [List.length_cons] at h;omega)
    simp only [List.cons_append,pairs,this]
theorem pairs_odd:∀ (a:List UInt8) (p:UInt8),a.length % 2=0→pairs (a++[p])=pairs a
  | [],_,_=>rfl
  | [x],_,h=>by simp at h
  | x :: y :: t,p,h=>by
    have:=pairs_odd t p (by simp only [List.length_cons] at h;omega)
    simp only [List.cons_append,pairs,this]
theorem pairs_end (l:List UInt8) (j:Nat) (hj:j % 2=0) (hle:j≤l.length) (h:¬ j+1 < l.length):pairs (l.take j)=pairs l:=by
  rcases (by omega:j=l.length∨l.length=j+1) with rfl|h1
  · rw [List.take_of_length_le (Nat.le_refl _)]
  · have e:l=l.take j++[l[j]'(by omega)]:=by
      rw [← List.take_succ_eq_append_getElem (by omega),List.take_of_length_le (by omega)]
    rw [e,List.take_append_of_le_length (by simp;omega),List.take_take,Nat.min_self,pairs_odd _ _ (by simp;omega)]
theorem pairs_step (s:ByteArray) (j:Nat) (hj:j % 2=0) (h:j+1 < s.size):pairs (s.data.toList.take (j+2))=pairs (s.data.toList.take j)++[UInt8.ofNat (16 * dg s[j]+dg s[j+1])]:=by
  have e:s.data.toList.take (j+2)=s.data.toList.take j++[s[j],s[j+1]]:=by
    rw [List.take_succ_eq_append_getElem (by simp;omega),List.take_succ_eq_append_getElem (by simp;omega),List.append_assoc];rfl
  rw [e,pairs_append _ _ _ (by simp;omega)]
end Go.Proofs.YtppgalpldaibhaaGreatDoor
namespace Go.Proofs.YtppgalpldaibhaaGreatDoor.Ab
open Go.RowKit
set_option linter.unusedVariables false
open Classical in
noncomputable def prs (lo hi:Int) (s:ByteArray):Int × Bool:=if h:∃ n:Int,lo≤n∧n≤hi∧itoaB n=s then (h.choose,true) else (0,false)
theorem itoaB_list (n:Int):(itoaB n).data.toList=Lib.itoa n:=by simp [itoaB]
theorem itoaB_inj {n m:Int} (h:itoaB n=itoaB m):n=m:=by
  have h1:=congrArg (fun s=>Lib.atoi s.data.toList) h
  simp only [itoaB_list,atoi_itoa,Option.some.injEq] at h1
  exact h1
theorem prs_yes {lo hi n:Int} {s:ByteArray} (h1:lo≤n) (h2:n≤hi) (h:itoaB n=s):prs lo hi s=(n,true):=by
  have hex:∃ n:Int,lo≤n∧n≤hi∧itoaB n=s:=⟨n,h1,h2,h⟩
  unfold prs
  rw [dif_pos hex]
  have:=hex.choose_spec
  rw [itoaB_inj (this.2.2.trans h.symm)]
theorem prs_no {lo hi:Int} {s:ByteArray} (h:∀ n:Int,lo≤n→n≤hi→itoaB n ≠ s):prs lo hi s=(0,false):=dif_neg fun ⟨n,h1,h2,h3⟩=>h n h1 h2 h3
theorem prs_in {lo hi:Int} {s:ByteArray} (h1:lo≤0) (h2:0≤hi):lo≤(prs lo hi s).1∧(prs lo hi s).1≤hi:=by
  by_cases h:∃ n:Int,lo≤n∧n≤hi∧itoaB n=s
  · obtain ⟨n,h3,h4,h5⟩:=h
    rw [prs_yes h3 h4 h5]
    exact ⟨h3,h4⟩
  · rw [prs_no fun n h3 h4 h5=>h ⟨n,h3,h4,h5⟩]
    exact ⟨h1,h2⟩
theorem prs_ok {lo hi:Int} {s:ByteArray} (h:(prs lo hi s).2=true):itoaB (prs lo hi s).1=s:=by
  by_cases hx:∃ n:Int,lo≤n∧n≤hi∧itoaB n=s
  · obtain ⟨n,h3,h4,h5⟩:=hx
    rw [prs_yes h3 h4 h5]
    exact h5
  · rw [prs_no fun n h3 h4 h5=>hx ⟨n,h3,h4,h5⟩] at h
    cases h
theorem digits_head (u:Nat):(Lib.decDigits u).head? ≠ some 45:=by
  intro h
  have hm:(45:UInt8) ∈ Lib.decDigits u:=List.mem_of_mem_head? h
  exact absurd (digits_mem u _ hm) (by decide)
def tlB (l:List UInt8):List UInt8:=if l.head? = some 45 then l.drop 1 else l
theorem tlB_itoa (m:Int):tlB (Lib.itoa m)=Lib.decDigits m.natAbs∧((Lib.itoa m).head? = some 45 ↔ m < 0):=by
  unfold Lib.itoa
  split
  · rename_i h
    exact ⟨rfl,fun _=>h,fun _=>rfl⟩
  · rename_i h
    refine ⟨?_,fun h2=>absurd h2 (digits_head _),fun h2=>absurd h2 h⟩
    unfold tlB
    rw [if_neg (digits_head _)]
    congr 1
    omega
theorem digits_short {k u:Nat} (h:u < 10 ^ (k+1)):(Lib.decDigits u).length≤k+1:=decDigits_le k u h
theorem read_same {s:ByteArray} {n:Int} (N:Nat) (hN:N < 1000000000000) (hd:Lib.decFrom 0 (tlB s.data.toList)=some N) (hs:n=if s.data.toList.head? = some 45 then -(N:Int) else N) :
    prs (-999999999999) 999999999999 s=if itoaB n=s then (n,true) else (0,false):=by
  split
  · exact prs_yes (by split at hs <;> omega) (by split at hs <;> omega) ‹_›
  · rename_i hne
    refine prs_no fun m h1 h2 hm=>hne ?_
    obtain ⟨e1,e2⟩:=tlB_itoa m
    have hl:s.data.toList=Lib.itoa m:=by rw [← hm,itoaB_list]
    rw [hl,e1,digits_back] at hd
    have hN' : m.natAbs=N:=Option.some.inj hd
    have:n=m:=by
      rw [hs,hl]
      split
      · rename_i h;have:=e2.1 h;omega
      · rename_i h;have:¬ m < 0:=fun h' => h (e2.2 h');omega
    rw [this]
    exact hm
theorem read_len {s:ByteArray} (h:(tlB s.data.toList).length < 1∨(tlB s.data.toList).length > 12):prs (-999999999999) 999999999999 s=(0,false):=by
  refine prs_no fun m h1 h2 hm=>?_
  have hl:s.data.toList=Lib.itoa m:=by rw [← hm,itoaB_list]
  obtain ⟨e1,_⟩:=tlB_itoa m
  rw [hl,e1] at h
  have:=digits_short (k:=11) (u:=m.natAbs) (by simp only [Nat.reduceAdd,Nat.reducePow];omega)
  have h0:0 < (Lib.decDigits m.natAbs).length:=List.length_pos_iff.2 (digits_ne _)
  omega
theorem read_bad {s:ByteArray} {i:Nat} {b:UInt8} (hb:(tlB s.data.toList)[i]? = some b) (h:b.toNat < 48∨57 < b.toNat) (lo hi:Int):prs lo hi s=(0,false):=by
  refine prs_no fun m h1 h2 hm=>?_
  have hl:s.data.toList=Lib.itoa m:=by rw [← hm,itoaB_list]
  obtain ⟨e1,_⟩:=tlB_itoa m
  rw [hl,e1] at hb
  have:=digits_mem m.natAbs b (List.mem_of_getElem? hb)
  omega
theorem digit_val {b:UInt8} (h1:48≤b.toNat) (h2:b.toNat≤57):Lib.digitVal b=some (b.toNat - 48):=by
  unfold Lib.digitVal
  rw [if_pos ⟨h1,h2⟩]
theorem read_next {l:List UInt8} {i N:Nat} {b:UInt8} (hd:Lib.decFrom 0 (l.take i)=some N) (hb:l[i]? = some b) (h1:48≤b.toNat) (h2:b.toNat≤57) :
    Lib.decFrom 0 (l.take (i+1))=some (N * 10+(b.toNat - 48)):=Lib.decFrom_take l i 0 N b _ hd hb (digit_val h1 h2)
theorem itoaB_long {n:Int} {s:ByteArray} (h:18 < s.size) (h1:-999999999999≤n) (h2:n≤999999999999):itoaB n ≠ s:=by
  intro e
  have hl:(Lib.itoa n).length=s.size:=by rw [← itoaB_list,e,Array.length_toList];rfl
  have:=digits_short (k:=11) (u:=n.natAbs) (by simp only [Nat.reduceAdd,Nat.reducePow];omega)
  unfold Lib.itoa at hl
  split at hl
  · rw [List.length_cons] at hl;omega
  · rw [show n.toNat=n.natAbs by omega] at hl;omega
def wordsB (s:ByteArray):List ByteArray:=(words32 s.data.toList).map fun w=>⟨w.toArray⟩
theorem words32_cut (w r:List UInt8) (h:∀ b ∈ w,b ≠ 32):words32 (w++32 :: r)=w :: words32 r:=by
  have:=words32_app w (32 :: r) h [] (words32 r) (words32_space r)
  rw [this,List.append_nil]
theorem words32_none (w:List UInt8) (h:∀ b ∈ w,b ≠ 32):words32 w=[w]:=by
  have:=words32_app w [] h [] [] rfl
  simp only [List.append_nil] at this
  exact this
theorem split_words:∀ (k:Nat) (s:ByteArray),s.size≤k→Lib.splitB ⟨#[32]⟩ 0 (Lib.countB s ⟨#[32]⟩) s=wordsB s
  | k, s, hk=>by
    have one:Lib.indexB s ⟨#[32]⟩=Lib.indexByte s.data.toList 32:=Lib.one s ⟨#[32]⟩ rfl
    have ge:=Lib.indexByte_ge s.data.toList 32
    rcases (by omega:Lib.indexByte s.data.toList 32 = -1∨0≤Lib.indexByte s.data.toList 32) with h|h
    · rw [Lib.countB_miss _ _ (one.trans h),Lib.splitB_zero]
      have hn:∀ b ∈ s.data.toList,b ≠ 32:=fun b hb e=>by
        obtain ⟨i,hi⟩:=List.getElem?_of_mem hb
        exact Lib.indexByte_none h i (e ▸ hi)
      unfold wordsB
      rw [words32_none _ hn]
      rfl
    · obtain ⟨i,hi⟩:∃ i:Nat,Lib.indexByte s.data.toList 32=i:=⟨_,(Int.toNat_of_nonneg h).symm⟩
      obtain ⟨h1,h2⟩:=Lib.indexByte_some hi
      have hlt:i < s.data.toList.length:=(List.getElem?_eq_some_iff.1 h1).1
      have hsz:s.data.toList.length=s.size:=by rw [Array.length_toList];rfl
      rw [Lib.countB_hit _ _ i (by decide) (one.trans hi),Nat.add_comm,Lib.splitB_hit _ _ _ _ i (one.trans hi)]
      have hl:s.data.toList=s.data.toList.take i++32 :: s.data.toList.drop (i+1):=by
        have h3:s.data.toList[i]=32:=(List.getElem?_eq_some_iff.1 h1).2
        rw [← h3,List.getElem_cons_drop,List.take_append_drop]
      have hw:words32 s.data.toList=s.data.toList.take i :: words32 (s.data.toList.drop (i+1)):=by
        conv=>lhs;rw [hl]
        exact words32_cut _ _ fun b hb e=>by
          obtain ⟨j,hj⟩:=List.getElem?_of_mem hb
          have hj1:=(List.getElem?_eq_some_iff.1 hj).1
          rw [List.length_take] at hj1
          rw [List.getElem?_take_of_lt (by omega)] at hj
          exact h2 j (by omega) (e ▸ hj)
      have ih:=split_words (k - 1) (s.extract (i+1) s.size) (by rw [ByteArray.size_extract];omega)
      have e1:(s.extract (i+1) s.size).data.toList=s.data.toList.drop (i+1):=by
        rw [ByteArray.data_extract,Array.toList_extract]
        rw [List.extract_eq_drop_take', ← hsz,List.take_length]
      have e0:s.extract 0 (i+0)=⟨(s.data.toList.take i).toArray⟩:=by
        apply ByteArray.ext
        apply Array.ext'
        rw [ByteArray.data_extract,Array.toList_extract,List.extract_eq_drop_take']
        simp
      show s.extract 0 (i+0) :: Lib.splitB ⟨#[32]⟩ 0 (Lib.countB (s.extract (i+1) s.size) ⟨#[32]⟩) (s.extract (i+1) s.size)=_
      rw [ih,e0]
      unfold wordsB
      rw [hw,e1]
      rfl
  termination_by k s=>s.size
  decreasing_by
    rw [ByteArray.size_extract]
    have:s.data.toList.length=s.size:=by rw [Array.length_toList];rfl
    omega
theorem words32_len:∀ (l:List UInt8), ∀ w ∈ words32 l,w.length≤l.length
  | [],w,h=>by
    rw [words32] at h
    rw [List.mem_singleton.1 h]
    exact Nat.le_refl _
  | b :: r,w,h=>by
    have ih:=words32_len r
    rw [words32] at h
    split at h
    · rcases List.mem_cons.1 h with rfl|h
      · exact Nat.zero_le _
      · have:=ih w h;rw [List.length_cons];omega
    · split at h
      · rename_i x xs hx
        rcases List.mem_cons.1 h with rfl|h
        · have:=ih x (by rw [hx];exact List.mem_cons_self ..)
          rw [List.length_cons,List.length_cons];omega
        · have:=ih w (by rw [hx];exact List.mem_cons_of_mem _ h)
          rw [List.length_cons];omega
      · rw [List.mem_singleton.1 h,List.length_cons,List.length_cons]
        simp
theorem words32_count:∀ (l:List UInt8),(words32 l).length≤l.length+1
  | []=>Nat.le_refl _
  | b :: r=>by
    have ih:=words32_count r
    rw [words32]
    split
    · rw [List.length_cons,List.length_cons];omega
    · split
      · rename_i x xs hx
        rw [hx,List.length_cons] at ih
        rw [List.length_cons,List.length_cons];omega
      · rw [List.length_cons,List.length_cons];simp
theorem wordsB_size {s x:ByteArray} (h:x ∈ wordsB s):x.size≤s.size:=by
  obtain ⟨w,hw,rfl⟩:=List.mem_map.1 h
  have hs:s.data.toList.length=s.size:=by rw [Array.length_toList];rfl
  have:=words32_len _ w hw
  show w.toArray.size≤_
  rw [List.size_toArray];omega
theorem wordsB_length (s:ByteArray):(wordsB s).length≤s.size+1:=by
  have hs:s.data.toList.length=s.size:=by rw [Array.length_toList];rfl
  have:=words32_count s.data.toList
  unfold wordsB
  rw [List.length_map];omega
def decT (s:ByteArray):ByteArray × Bool:=(⟨(decR s.data.toList).1.toArray⟩,(decR s.data.toList).2)
theorem encS_encB (s:ByteArray):encS s.data.toList=(encB s).data.toList:=by
  unfold encS encB
  by_cases h:s.data.toList=[]
  · rw [if_pos h,if_pos h]
  · rw [if_neg h,if_neg h]
theorem pairs_encS (l:List UInt8):pairs (encS l)=l:=by
  unfold encS
  split
  · rename_i h;rw [h];rfl
  · exact pairs_encode l
theorem decT_encB (t:ByteArray):decT (encB t)=(t,true):=by
  unfold decT decR
  rw [← encS_encB,pairs_encS,if_pos rfl]
theorem decT_le (s:ByteArray):(decT s).1.size≤s.size:=by
  have hs:s.data.toList.length=s.size:=by rw [Array.length_toList];rfl
  show (decR s.data.toList).1.toArray.size≤_
  rw [List.size_toArray]
  unfold decR
  split
  · rw [pairs_length];omega
  · exact Nat.zero_le _
abbrev sArg (s:ByteArray):SV:=.val false [.s s]
abbrev iArg (n:Int):SV:=.val false [.i .i64 n]
noncomputable def prsR (lo hi:Int) (s:ByteArray):SV:=.tup [(false,[.i .i64 (prs lo hi s).1]),(false,[.b (prs lo hi s).2])]
noncomputable def spRead:FSpec where
  pre args:=∃ s:ByteArray,args=[sArg s,iArg 12]
  res args:=match args with
    | [.val _ [.s s],_]=>prsR (-999999999999) 999999999999 s
    | _=>.none
noncomputable def spPrs (lo hi:Int):FSpec where
  pre args:=∃ s:ByteArray,s.size≤281474976710656∧args=[sArg s]
  res args:=match args with
    | [.val _ [.s s]]=>prsR lo hi s
    | _=>.none
noncomputable def spPar:FSpec where
  pre args:=∃ (s:ByteArray) (lo hi:Int),s.size≤281474976710656 ∧ -999999999999≤lo∧hi≤999999999999∧args=[sArg s,iArg lo,iArg hi]
  res args:=match args with
    | [.val _ [.s s],.val _ [.i _ lo],.val _ [.i _ hi]]=>prsR lo hi s
    | _=>.none
def spDec:FSpec where
  pre args:=∃ s:ByteArray,s.size≤1048576∧args=[sArg s]
  res args:=match args with
    | [.val _ [.s s]]=>.tup [(false,[.s (decT s).1]),(false,[.b (decT s).2])]
    | _=>.none
def spSplit (o:Bool):FSpec where
  pre args:=∃ s:ByteArray,s.size≤1048576∧args=[sArg s,.val false [.i .u8 32]]
  res args:=match args with
    | [.val _ [.s s],_]=>.val false [.sl o 9 (strRows (wordsB s))]
    | _=>.none
def spSplit2:FSpec where
  pre args:=∃ s:ByteArray,s.size≤1048576∧args=[sArg s,sArg ⟨#[32]⟩]
  res args:=match args with
    | [.val _ [.s s],_]=>.val false [.sl false 9 (strRows (wordsB s))]
    | _=>.none
theorem resP {lo hi:Int} {s:ByteArray} {n:Int} {b:Bool} (h:prs lo hi s=(n,b)):[(false,[CV.i .i64 n]),(false,[CV.b b])]=[(false,[CV.i .i64 (prs lo hi s).1]),(false,[CV.b (prs lo hi s).2])]:=by rw [h]
theorem list_getD {s:ByteArray} {i:Nat} (h:i < s.size):s.data.toList[i]? = some (s.data.getD i 0):=by
  have hs:i < s.data.size:=h
  rw [Array.getElem?_toList,Array.getD,dif_pos hs,Array.getElem?_eq_getElem hs]
  rfl
theorem head_is {s:ByteArray} (h0:decide ((s.size:Int) > 0)=true) (h:(((s.data.getD (Int.toNat 0) 0).toNat:Int) == 45)=true):s.data.toList.head? = some 45:=by
  have h1:0 < s.size:=by have:=of_decide_eq_true h0;omega
  rw [List.head?_eq_getElem?,list_getD h1]
  have:(s.data.getD 0 0).toNat=45:=by have h2:((s.data.getD 0 0).toNat:Int)=45:=eq_of_beq h;omega
  exact congrArg some (UInt8.toNat_inj.1 this)
theorem head_isnt {s:ByteArray} (h0:decide ((s.size:Int) > 0)=true) (h:(((s.data.getD (Int.toNat 0) 0).toNat:Int) == 45)=false):s.data.toList.head? ≠ some 45:=by
  have h1:0 < s.size:=by have:=of_decide_eq_true h0;omega
  rw [List.head?_eq_getElem?,list_getD h1]
  intro e
  have h2:((s.data.getD 0 0).toNat:Int)=45:=by rw [Option.some.inj e];rfl
  have h3:((s.data.getD 0 0).toNat:Int) ≠ 45:=by simpa using h
  exact h3 h2
theorem tl_is {s:ByteArray} (h:s.data.toList.head? = some 45):tlB s.data.toList=(s.extract (Int.toNat 1) (s.size:Int).toNat).data.toList:=by
  have hsz:s.data.toList.length=s.size:=by rw [Array.length_toList];rfl
  unfold tlB
  rw [if_pos h,ByteArray.data_extract,Array.toList_extract,List.extract_eq_drop_take',Int.toNat_natCast, ← hsz,List.take_length]
  rfl
theorem tl_isnt {s:ByteArray} (h:s.data.toList.head? ≠ some 45):tlB s.data.toList=s.data.toList:=if_neg h
theorem tl_size {s t:ByteArray} (h:tlB s.data.toList=t.data.toList):(tlB s.data.toList).length=t.size:=by rw [h,Array.length_toList];rfl
def RI (t:ByteArray) (N i:Nat):Prop:=Lib.decFrom 0 (t.data.toList.take i)=some N∧N < 10 ^ i∧i≤t.size
theorem RI.zero (t:ByteArray):RI t 0 0:=⟨rfl,by decide,Nat.zero_le _⟩
theorem RI.small {t:ByteArray} {N i:Nat} (h:RI t N i) (ht:t.size≤12):N < 1000000000000:=Nat.lt_of_lt_of_le h.2.1 (Nat.le_trans (Nat.pow_le_pow_right (by decide) (Nat.le_trans h.2.2 ht)) (by decide))
theorem RI.less {t:ByteArray} {N i:Nat} (h:RI t N i) (hi:i < t.size) (ht:t.size≤12):N < 100000000000:=Nat.lt_of_lt_of_le h.2.1 (Nat.le_trans (Nat.pow_le_pow_right (by decide) (show i≤11 by omega)) (by decide))
theorem RI.next {t:ByteArray} {N i:Nat} (h:RI t N i) (hi:i < t.size) (h1:¬ (t.data.getD i 0).toNat < 48) (h2:¬ (t.data.getD i 0).toNat > 57):RI t (N * 10+((t.data.getD i 0).toNat - 48)) (i+1):=by
  refine ⟨read_next h.1 (list_getD hi) (by omega) (by omega),?_,hi⟩
  have:=h.2.1
  rw [Nat.pow_succ]
  omega
theorem RI.all {t:ByteArray} {N i:Nat} (h:RI t N i) (hi:¬ i < t.size):Lib.decFrom 0 t.data.toList=some N:=by
  have hsz:t.data.toList.length=t.size:=by rw [Array.length_toList];rfl
  have:=h.1
  rw [List.take_of_length_le (by omega)] at this
  exact this
theorem RI.num {t:ByteArray} {N i:Nat} (h:RI t N i) (hi:i < t.size) (ht:t.size≤12) (h1:¬ (t.data.getD i 0).toNat < 48) (h2:¬ (t.data.getD i 0).toNat > 57) :
    IntKind.i64.wrap (IntKind.i64.wrap (10 * (N:Int))+IntKind.i64.wrap (IntKind.u8.wrap (((t.data.getD i 0).toNat:Int) - 48)))=((N * 10+((t.data.getD i 0).toNat - 48):Nat):Int):=by
  have hN:=h.less hi ht
  have e1:IntKind.u8.wrap (((t.data.getD i 0).toNat:Int) - 48)=((t.data.getD i 0).toNat:Int) - 48:=IntWalk.u8_in _ (by omega)
  have e2:IntKind.i64.wrap (((t.data.getD i 0).toNat:Int) - 48)=((t.data.getD i 0).toNat:Int) - 48:=IntWalk.i64_in _ (by omega)
  have e3:IntKind.i64.wrap (10 * (N:Int))=10 * (N:Int):=IntWalk.i64_in _ (by omega)
  rw [e1,e2,e3,IntWalk.i64_in _ (by omega)]
  omega
theorem read_short {s t:ByteArray} (h:tlB s.data.toList=t.data.toList) (hd:decide ((t.size:Int) < 1)=true∨decide ((t.size:Int) > 12)=true):prs (-999999999999) 999999999999 s=(0,false):=by
  refine read_len ?_
  rw [tl_size h]
  rcases hd with h1|h1
  · have:=of_decide_eq_true h1;omega
  · have:=of_decide_eq_true h1;omega
theorem head_none {s:ByteArray} (h0:decide ((s.size:Int) > 0)=false):s.data.toList.head? ≠ some 45:=by
  have h1:s.size=0:=by have:=of_decide_eq_false h0;omega
  have h2:s.data.toList=[]:=List.length_eq_zero_iff.1 (by rw [Array.length_toList];exact h1)
  rw [h2]
  simp
theorem read_less {s t:ByteArray} {i:Nat} (h:tlB s.data.toList=t.data.toList) (hi:i < t.size) (hd:decide (((t.data.getD (Int.toNat (i:Int)) 0).toNat:Int) < 48)=true∨decide (((t.data.getD (Int.toNat (i:Int)) 0).toNat:Int) > 57)=true) (lo hi' : Int):prs lo hi' s=(0,false):=by
  refine read_bad (i:=i) (b:=t.data.getD i 0) (by rw [h];exact list_getD hi) ?_ _ _
  rcases hd with h1|h1
  · exact .inl (by have:=of_decide_eq_true h1;rw [Int.toNat_natCast] at this;omega)
  · exact .inr (by have:=of_decide_eq_true h1;rw [Int.toNat_natCast] at this;omega)
theorem dig_of {t:ByteArray} {i:Nat} (h1:decide (((t.data.getD (Int.toNat (i:Int)) 0).toNat:Int) < 48)=false) (h2:decide (((t.data.getD (Int.toNat (i:Int)) 0).toNat:Int) > 57)=false) :
    ¬ (t.data.getD i 0).toNat < 48∧¬ (t.data.getD i 0).toNat > 57:=by
  have h3:=of_decide_eq_false h1
  have h4:=of_decide_eq_false h2
  rw [Int.toNat_natCast] at h3 h4
  exact ⟨by omega,by omega⟩
theorem read_endT {s:ByteArray} {lo hi n n' : Int} (hn:n' = n) (hd:prs lo hi s=if itoaB n=s then (n,true) else (0,false)) (h:(!(itoaB n').toList == s.toList)=true):prs lo hi s=(0,false):=by
  subst hn
  rw [hd,if_neg]
  intro e
  rw [e] at h
  simp at h
theorem read_endF {s:ByteArray} {lo hi n n' : Int} (hn:n' = n) (hd:prs lo hi s=if itoaB n=s then (n,true) else (0,false)) (h:(!(itoaB n').toList == s.toList)=false):prs lo hi s=(n',true):=by
  subst hn
  rw [hd,if_pos]
  have h2:((itoaB n').toList == s.toList)=true:=by simpa using h
  exact (str_inj _ _).mp (eq_of_beq h2)
theorem snapI {f:Int→Int→Snap} {r r' a b:Int} (h:r=r') (h2:a=b):f r a=f r' b:=by rw [h,h2]
abbrev wAt (rows:List (List D)) (k:Nat):ByteArray:=((rows.getD k []).getD 0 default).str
def SmW (rows:List (List D)):Prop:=∀ k,k < rows.length→(wAt rows k).size≤1048576
noncomputable def numS (rows:List (List D)) (k:Nat):Int:=if k < rows.length then (prs (-999999999999) 999999999999 (wAt rows k)).1 else 0
def txtS (rows:List (List D)) (k:Nat):ByteArray:=if k < rows.length then (decT (wAt rows k)).1 else ⟨#[]⟩
abbrev curS (rows:List (List D)) (k:Int):SV:=.tup [(true,[.sl true 9 rows,.i .i64 k])]
noncomputable def spWInt:FSpec where
  pre args:=∃ (rows:List (List D)) (k:Nat),k≤4611686018427387904∧SmW rows∧args=[curS rows k]
  bx:=true
  res args:=match args with
    | [.tup [(_,[.sl _ _ rows,.i _ k])]]=>iArg (numS rows k.toNat)
    | _=>.none
  upd args:=match args with
    | [.tup [(_,[.sl _ _ rows,.i _ k])]]=>[.sl true 9 rows,.i .i64 (k+1)]
    | _=>[]
def spWTxt:FSpec where
  pre args:=∃ (rows:List (List D)) (k:Nat),k≤4611686018427387904∧SmW rows∧args=[curS rows k]
  bx:=true
  res args:=match args with
    | [.tup [(_,[.sl _ _ rows,.i _ k])]]=>sArg (txtS rows k.toNat)
    | _=>.none
  upd args:=match args with
    | [.tup [(_,[.sl _ _ rows,.i _ k])]]=>[.sl true 9 rows,.i .i64 (k+1)]
    | _=>[]
abbrev scn (rows:List (List D)) (b:Bool):SV:=.tup [(true,[.sl false 9 rows,.b b])]
def hdW (rows:List (List D)):ByteArray:=if rows.length=0 then ⟨#[]⟩ else wAt rows 0
def okW (rows:List (List D)) (b:Bool):Bool:=if rows.length=0 then false else b
noncomputable abbrev numI' (rows:List (List D)):Int × Bool:=prs (-1000000000) 1000000000 (hdW rows)
def spWord:FSpec where
  pre args:=∃ (rows:List (List D)) (b:Bool),args=[scn rows b]
  bx:=true
  res args:=match args with
    | [.tup [(_,[.sl _ _ rows,.b b])]]=>sArg (hdW rows)
    | _=>.none
  upd args:=match args with
    | [.tup [(_,[.sl _ _ rows,.b b])]]=>[.sl false 9 (rows.drop 1),.b (okW rows b)]
    | _=>[]
noncomputable def spNumI:FSpec where
  pre args:=∃ (rows:List (List D)) (b:Bool),SmW rows∧args=[scn rows b]
  bx:=true
  res args:=match args with
    | [.tup [(_,[.sl _ _ rows,.b b])]]=>iArg (numI' rows).1
    | _=>.none
  upd args:=match args with
    | [.tup [(_,[.sl _ _ rows,.b b])]]=>[.sl false 9 (rows.drop 1),.b (okW rows b && (numI' rows).2)]
    | _=>[]
def spTxtI:FSpec where
  pre args:=∃ (rows:List (List D)) (b:Bool),SmW rows∧args=[scn rows b]
  bx:=true
  res args:=match args with
    | [.tup [(_,[.sl _ _ rows,.b b])]]=>sArg (decT (hdW rows)).1
    | _=>.none
  upd args:=match args with
    | [.tup [(_,[.sl _ _ rows,.b b])]]=>[.sl false 9 (rows.drop 1),.b (okW rows b && (decT (hdW rows)).2)]
    | _=>[]
theorem hdW_size {rows:List (List D)} (h:SmW rows):(hdW rows).size≤1048576:=by
  unfold hdW
  split
  · exact Nat.zero_le _
  · exact h 0 (by omega)
theorem numS_yes {rows:List (List D)} {k:Nat} (h:decide ((k:Int) < (rows.length:Int))=true):(prs (-999999999999) 999999999999 (wAt rows (Int.toNat (k:Int)))).1=numS rows (Int.toNat (k:Int)):=by
  have h1:=of_decide_eq_true h
  unfold numS
  rw [Int.toNat_natCast,if_pos (by omega)]
theorem numS_no {rows:List (List D)} {k:Nat} (h:decide ((k:Int) < (rows.length:Int))=false):0=numS rows (Int.toNat (k:Int)):=by
  have h1:=of_decide_eq_false h
  unfold numS
  rw [Int.toNat_natCast,if_neg (by omega)]
theorem txtS_yes {rows:List (List D)} {k:Nat} (h:decide ((k:Int) < (rows.length:Int))=true):(decT (wAt rows (Int.toNat (k:Int)))).1=txtS rows (Int.toNat (k:Int)):=by
  have h1:=of_decide_eq_true h
  unfold txtS
  rw [Int.toNat_natCast,if_pos (by omega)]
theorem txtS_no {rows:List (List D)} {k:Nat} (h:decide ((k:Int) < (rows.length:Int))=false):⟨#[]⟩=txtS rows (Int.toNat (k:Int)):=by
  have h1:=of_decide_eq_false h
  unfold txtS
  rw [Int.toNat_natCast,if_neg (by omega)]
theorem hdW_yes {rows:List (List D)} (h:((rows.length:Int) == 0)=false):wAt rows (Int.toNat 0)=hdW rows∧rows.length ≠ 0:=by
  have h1:(rows.length:Int) ≠ 0:=by simpa using h
  have h2:rows.length ≠ 0:=by omega
  exact ⟨by unfold hdW;rw [if_neg h2];rfl,h2⟩
theorem hdW_no {rows:List (List D)} (h:((rows.length:Int) == 0)=true):⟨#[]⟩=hdW rows∧rows.length=0:=by
  have h1:(rows.length:Int)=0:=eq_of_beq h
  have h2:rows.length=0:=by omega
  exact ⟨by unfold hdW;rw [if_pos h2],h2⟩
theorem updNo {rows:List (List D)} {b:Bool} (h:rows.length=0):[CV.sl false 9 rows,CV.b false]=[CV.sl false 9 (rows.drop 1),CV.b (okW rows b)]:=by
  have:rows=[]:=List.length_eq_zero_iff.1 h
  subst this
  rfl
theorem updYes {rows:List (List D)} {b:Bool} (h:rows.length ≠ 0):[CV.sl false 9 (List.drop (Int.toNat 1) (List.take ((rows.length:Int)).toNat rows)),CV.b b]=[CV.sl false 9 (rows.drop 1),CV.b (okW rows b)]:=by
  unfold okW
  rw [if_neg h,Int.toNat_natCast,List.take_length]
  rfl
theorem updK {rows:List (List D)} {k:Nat} (hk:k≤4611686018427387904):[CV.sl true 9 rows,CV.i .i64 (IntKind.i64.wrap ((k:Int)+1))]=[CV.sl true 9 rows,CV.i .i64 ((k:Int)+1)]:=by
  rw [IntWalk.i64_in _ (by omega)]
theorem updB {rows:List (List D)} {x y:Bool} (h:x=y):[CV.sl false 9 rows,CV.b x]=[CV.sl false 9 rows,CV.b y]:=by rw [h]
def SpI (s:ByteArray) (o:List ByteArray) (fr i:Nat):Prop :=
  o.length≤i∧((i≤s.size∧fr≤i∧words32 (s.data.toList.take i)=o.map (·.data.toList)++[(s.extract fr i).data.toList])∨(i=s.size+1∧o=wordsB s))
theorem ext_list (s:ByteArray) (a b:Nat):(s.extract a b).data.toList=(s.data.toList.take b).drop a:=by
  rw [ByteArray.data_extract,Array.toList_extract,List.extract_eq_drop_take']
theorem SpI.zero (s:ByteArray):SpI s [] 0 0:=⟨Nat.le_refl _,.inl ⟨Nat.zero_le _,Nat.le_refl _,by rw [ext_list];rfl⟩⟩
theorem SpI.full {s:ByteArray} {o:List ByteArray} {fr i:Nat} (h:SpI s o fr i) (hi:i=s.size):SpI s (o++[s.extract fr i]) (i+1) (i+1):=by
  have hs:s.data.toList.length=s.size:=by rw [Array.length_toList];rfl
  obtain ⟨h0,⟨_,h2,h3⟩|⟨h2,_⟩⟩:=h
  · refine ⟨by rw [List.length_append,List.length_singleton];omega,.inr ⟨by omega,?_⟩⟩
    rw [List.take_of_length_le (by omega)] at h3
    unfold wordsB
    have e1:∀ x:ByteArray,(⟨x.data.toList.toArray⟩:ByteArray)=x:=fun x=>by simp
    rw [h3,List.map_append,List.map_map]
    have e2:(o.map ((fun w:List UInt8=>(⟨w.toArray⟩:ByteArray)) ∘ fun x=>x.data.toList))=o:=by
      conv=>rhs;rw [← List.map_id o]
      exact List.map_congr_left fun x _=>e1 x
    rw [e2,List.map_singleton,e1]
  · omega
theorem take_snoc {s:ByteArray} {i:Nat} (hi:i < s.size):s.data.toList.take (i+1)=s.data.toList.take i++[s.data.getD i 0]:=by
  rw [List.take_add_one,list_getD hi];rfl
theorem SpI.space {s:ByteArray} {o:List ByteArray} {fr i:Nat} (h:SpI s o fr i) (hi:i < s.size) (hb:s.data.getD i 0=32):SpI s (o++[s.extract fr i]) (i+1) (i+1):=by
  obtain ⟨h0,⟨_,h2,h3⟩|⟨h2,_⟩⟩:=h
  · refine ⟨by rw [List.length_append,List.length_singleton];omega,.inl ⟨hi,Nat.le_refl _,?_⟩⟩
    rw [take_snoc hi,words32_snoc _ _ _ _ h3,if_pos hb,List.map_append,ext_list s (i+1) (i+1),List.drop_of_length_le (by rw [List.length_take];omega)]
    rfl
  · omega
theorem SpI.miss {s:ByteArray} {o:List ByteArray} {fr i:Nat} (h:SpI s o fr i) (hi:i < s.size) (hb:s.data.getD i 0 ≠ 32):SpI s o fr (i+1):=by
  have hs:s.data.toList.length=s.size:=by rw [Array.length_toList];rfl
  obtain ⟨h0,⟨_,h2,h3⟩|⟨h2,_⟩⟩:=h
  · refine ⟨by omega,.inl ⟨hi,by omega,?_⟩⟩
    rw [take_snoc hi,words32_snoc _ _ _ _ h3,if_neg hb,ext_list,ext_list,take_snoc hi,List.drop_append_of_le_length (by rw [List.length_take];omega)]
  · omega
theorem SpI.done {s:ByteArray} {o:List ByteArray} {fr i:Nat} (h:SpI s o fr i) (hi:¬ i≤s.size):o=wordsB s:=by
  obtain ⟨_,⟨h1,_⟩|⟨_,h3⟩⟩:=h
  · omega
  · exact h3
theorem SpI.le {s:ByteArray} {o:List ByteArray} {fr i:Nat} (h:SpI s o fr i) (hi:i≤s.size):fr≤i∧o.length≤i:=by
  obtain ⟨h0,⟨_,h2,_⟩|⟨h2,_⟩⟩:=h
  · exact ⟨h2,h0⟩
  · omega
theorem strRows_app (o:List ByteArray) (x:ByteArray):strRows o++([]++[[D.s x]])=strRows (o++[x]):=by simp [strRows]
theorem snap3 {f:List (List D)→Int→Int→Snap} {r r' : List (List D)} {a a' b b' : Int} (h:r=r') (h2:a=a') (h3:b=b'):f r a b=f r' a' b' := by rw [h,h2,h3]
theorem byte_of {s:ByteArray} {i:Nat} {x:Bool} (h:(((s.data.getD (Int.toNat (i:Int)) 0).toNat:Int) == 32)=x):(x=true→s.data.getD i 0=32)∧(x=false→s.data.getD i 0 ≠ 32):=by
  rw [Int.toNat_natCast] at h
  refine ⟨fun hx=>?_,fun hx e=>?_⟩
  · rw [hx] at h
    have h2:((s.data.getD i 0).toNat:Int)=32:=eq_of_beq h
    have h3:(s.data.getD i 0).toNat=32:=by omega
    exact UInt8.toNat_inj.1 h3
  · rw [hx,e] at h
    exact absurd h (by decide)
end Go.Proofs.YtppgalpldaibhaaGreatDoor.Ab
