/- Values exactly, in plain Lean: names, columns, rows, depth, when a value is valid. No program in sight. And what belongs to it. -/
import Derived.Test.YtppgalpldaibhaaGreatDoorDFd
import Derived.Lib.Atoi
import Derived.Lib.ItoaNum
import Derived.Lib.Join
import Derived.Lib.HexFns2
import Derived.Lib.SplitLaws
import Derived.Lib.IndexLaws
import Derived.Lib.CountLaws
import Derived.Lib.IndexBytes
import Derived.Test.YtppgalpldaibhaaGreatDoorDTa
import Derived.IntWalk
namespace Go.Proofs.YtppgalpldaibhaaGreatDoor.Ab
open Go.RowKit
set_option linter.unusedVariables false
def allB (n:Nat) (P:Nat→Bool):Bool:=(List.range n).all P
theorem allB_iff {n:Nat} {P:Nat→Bool}:allB n P=true ↔ ∀ i,i < n→P i=true:=by
  simp [allB]
theorem allB_stop {n i:Nat} {P:Nat→Bool} (hi:i < n) (h:P i=false):allB n P=false:=by
  cases he:allB n P with
  | false=>rfl
  | true=>rw [allB_iff.1 he i hi] at h;cases h
theorem allB_end {n i:Nat} {P:Nat→Bool} (h:∀ j,j < i→P j=true) (hi:¬ i < n):allB n P=true:=allB_iff.2 fun j hj=>h j (by omega)
theorem allB_congr {n:Nat} {P Q:Nat→Bool} (h:∀ i,i < n→P i=Q i):allB n P=allB n Q:=by
  rw [Bool.eq_iff_iff,allB_iff,allB_iff]
  exact ⟨fun k i hi=>(h i hi) ▸ k i hi,fun k i hi=>(h i hi).symm ▸ k i hi⟩
theorem all_succ {i:Nat} {P:Nat→Bool} (h:∀ j,j < i→P j=true) (hi:P i=true):∀ j,j < i+1→P j=true:=by
  intro j hj
  by_cases e:j=i
  · rw [e];exact hi
  · exact h j (by omega)
def firstB (n:Nat) (P:Nat→Bool):Int:=match (List.range n).find? P with
  | some i=>(i:Int)
  | none=>-1
theorem range_find {n i:Nat} {P:Nat→Bool} (hi:i < n) (h:P i=true) (hb:∀ j,j < i→P j=false):(List.range n).find? P=some i:=by
  rw [List.find?_range_eq_some]
  exact ⟨h,List.mem_range.2 hi,fun j hj=>by rw [hb j hj];rfl⟩
theorem firstB_hit {n i:Nat} {P:Nat→Bool} (hi:i < n) (h:P i=true) (hb:∀ j,j < i→(!P j)=true):firstB n P=(i:Int):=by
  unfold firstB
  rw [range_find hi h (fun j hj=>by simpa using hb j hj)]
theorem firstB_none {n:Nat} {P:Nat→Bool} (hb:∀ j,j < n→(!P j)=true):firstB n P = -1:=by
  unfold firstB
  have:(List.range n).find? P=none:=by
    rw [List.find?_eq_none]
    intro j hj
    have:=hb j (List.mem_range.1 hj)
    simpa using this
  rw [this]
theorem firstB_cases (n:Nat) (P:Nat→Bool):(firstB n P = -1∧∀ j,j < n→P j=false)∨∃ i:Nat,i < n∧firstB n P=(i:Int)∧P i=true∧∀ j,j < i→P j=false:=by
  unfold firstB
  cases h:(List.range n).find? P with
  | none =>
    refine .inl ⟨rfl,fun j hj=>?_⟩
    have:=List.find?_eq_none.1 h j (List.mem_range.2 hj)
    simpa using this
  | some i =>
    rw [List.find?_range_eq_some] at h
    refine .inr ⟨i,List.mem_range.1 h.2.1,rfl,h.1,fun j hj=>?_⟩
    have:=h.2.2 j hj
    simpa using this
def maxB (n:Nat) (F:Nat→Int):Int:=(List.range n).foldl (fun m i=>max m (F i)) 0
theorem maxB_zero (F:Nat→Int):maxB 0 F=0:=rfl
theorem maxB_succ (n:Nat) (F:Nat→Int):maxB (n+1) F=max (maxB n F) (F n):=by
  unfold maxB
  rw [List.range_succ,List.foldl_append]
  rfl
theorem maxB_congr:∀ {n:Nat} {F G:Nat→Int},(∀ i,i < n→F i=G i)→maxB n F=maxB n G
  | 0,_,_,_=>rfl
  | n+1,F,G,h=>by rw [maxB_succ,maxB_succ,maxB_congr (n:=n) (fun i hi=>h i (by omega)),h n (by omega)]
theorem maxB_le:∀ {n:Nat} {F:Nat→Int} {M:Int},0≤M→(∀ i,i < n→F i≤M)→maxB n F≤M
  | 0,_,_,h0,_=>h0
  | n+1,F,M,h0,h=>by rw [maxB_succ];exact Int.max_le.2 ⟨maxB_le h0 (fun i hi=>h i (by omega)),h n (by omega)⟩
theorem maxB_nonneg:∀ {n:Nat} {F:Nat→Int},0≤maxB n F
  | 0,_=>Int.le_refl _
  | n+1,F=>by rw [maxB_succ];exact Int.le_trans (maxB_nonneg (n:=n)) (Int.le_max_left _ _)
theorem le_maxB:∀ {n:Nat} {F:Nat→Int} {i:Nat},i < n→F i≤maxB n F
  | 0,_,_,h=>absurd h (Nat.not_lt_zero _)
  | n+1,F,i,h=>by
    rw [maxB_succ]
    by_cases e:i=n
    · rw [e];exact Int.le_max_right _ _
    · exact Int.le_trans (le_maxB (n:=n) (by omega)) (Int.le_max_left _ _)
abbrev bAt (s:ByteArray) (i:Nat):Int:=((s.data.getD (Int.toNat (i:Int)) 0).toNat:Int)
def txtByte (b:Int):Bool:=!(decide (b < 32) || decide (b > 126) || b == 34)
def okTxt (s:ByteArray):Bool:=allB s.size (fun i=>txtByte (bAt s i)) && decide ((s.size:Int)≤20)
def letB (b:Int):Bool:=decide (b ≥ 97) && decide (b≤122)
def digB (b:Int):Bool:=decide (b ≥ 48) && decide (b≤57)
def wordB (s:ByteArray) (i:Nat):Bool:=letB (bAt s i) || (!((i:Int) == 0) && digB (bAt s i))
def nameSh (s:ByteArray):Bool:=allB s.size (wordB s) && decide ((s.size:Int) > 0)
def resvB:List ByteArray:=[⟨#[108,101,116]⟩,⟨#[105,110]⟩,⟨#[105,102]⟩,⟨#[116,104,101,110]⟩,⟨#[101,108,115,101]⟩,⟨#[102,111,114]⟩,⟨#[100,111]⟩,⟨#[108,101,110]⟩,⟨#[115,117,109]⟩,⟨#[116,97,107,101]⟩,⟨#[115,107,105,112]⟩,⟨#[114,97,110,103,101]⟩,⟨#[110,116,104]⟩,⟨#[119,104,101,114,101]⟩,⟨#[107,101,101,112]⟩,⟨#[97,100,100]⟩,⟨#[103,114,111,117,112]⟩,⟨#[106,111,105,110]⟩,⟨#[99,111,108,117,109,110]⟩,⟨#[114,111,119,115]⟩,⟨#[99,108,111,99,107]⟩,⟨#[99,104,97,110,99,101]⟩,⟨#[102,105,108,101]⟩,⟨#[116,97,98,108,101]⟩]
def isResv (s:ByteArray):Bool:=resvB.any fun x=>s.toList == x.toList
def nameOk (s:ByteArray):Bool:=nameSh s && (decide ((s.size:Int)≤8) && !isResv s)
abbrev tAt (rows:List (List D)) (k:Nat):ByteArray:=((rows.getD (Int.toNat (k:Int)) []).getD 0 default).str
abbrev isAt (rows:List (List D)) (s:ByteArray) (k:Nat):Bool:=(tAt rows k).toList == s.toList
def hasT (rows:List (List D)) (s:ByteArray):Bool:=!allB rows.length fun k=>!isAt rows s k
def idxT (rows:List (List D)) (s:ByteArray):Int:=firstB rows.length (isAt rows s)
def distT (rows:List (List D)):Bool:=allB rows.length fun i=>!hasT (rows.take i) (tAt rows i)
def colsOk (rows:List (List D)):Bool:=allB rows.length (fun i=>nameOk (tAt rows i)) && (inR rows.length 1 4 && distT rows)
theorem idxT_dist {rows:List (List D)} {i:Nat} (hi:i < rows.length):(idxT rows (tAt rows i) == (i:Int))=!hasT (rows.take i) (tAt rows i):=by
  have hl:(rows.take i).length=i:=by rw [List.length_take];omega
  have hsame:∀ j,j < i→isAt (rows.take i) (tAt rows i) j=isAt rows (tAt rows i) j:=by
    intro j hj
    have:(rows.take i).getD j []=rows.getD j []:=by
      rw [List.getD_eq_getElem?_getD,List.getD_eq_getElem?_getD,List.getElem?_take_of_lt hj]
    simp only [isAt,tAt,Int.toNat_natCast,this]
  have hself:isAt rows (tAt rows i) i=true:=by simp [isAt]
  unfold hasT
  rw [hl,Bool.not_not]
  rcases firstB_cases rows.length (isAt rows (tAt rows i)) with ⟨h1,h2⟩|⟨k,hk,h1,h2,h3⟩
  · rw [h2 i hi] at hself;cases hself
  · unfold idxT
    rw [h1]
    have hki:¬ i < k:=fun h=>by rw [h3 i h] at hself;cases hself
    by_cases e:k=i
    · subst e
      rw [beq_self_eq_true]
      exact (allB_iff.2 fun j hj=>by rw [hsame j hj,h3 j hj];rfl).symm
    · rw [allB_stop (i:=k) (by omega) (by rw [hsame k (by omega),h2];rfl)]
      rw [beq_eq_false_iff_ne]
      omega
abbrev iAt (r:List D) (j:Nat):Int:=(r.getD j default).int
def befO (a b:List D):Bool:=decide (iAt a 0 < iAt b 0) || (iAt a 0 == iAt b 0 && decide (iAt a 1 < iAt b 1))
abbrev rAt (l:List (List D)) (i:Nat):List D:=l.getD (Int.toNat (i:Int)) []
def ascB (l:List (List D)) (i:Nat):Bool:=!(decide (iAt (rAt l i) 0 < 0) || decide (iAt (rAt l i) 1 < 0) || (decide ((i:Int) > 0) && !befO (rAt l (i - 1)) (rAt l i)))
def ascOk (l:List (List D)):Bool:=allB l.length (ascB l)
def numsOk (l:List (List D)):Bool:=allB l.length fun k=>inR (iAt (rAt l k) 0) (-1000000000) 1000000000
def rowOk (n:Nat) (r:List D):Bool:=((((r.getD 0 default).rows.length:Int) == (n:Int)) && ascOk (r.getD 1 default).rows) && numsOk (r.getD 0 default).rows
def rowsOk (n:Nat) (l:List (List D)):Bool:=allB l.length fun i=>rowOk n (rAt l i)
def tblOk (c l:List (List D)):Bool:=colsOk c && (decide ((l.length:Int)≤12) && rowsOk c.length l)
abbrev lst (a:List D):List (List D):=(a.getD 4 default).rows
theorem wLst {a:List D} {k:Nat} (hk:k < (lst a).length):wRow (rAt (lst a) k) < wRow a:=by
  show wRow ((lst a).getD k []) < wRow a
  have h1:=wRows_cell a 4
  have h2:=wRow_le hk
  unfold lst at hk h2 ⊢
  omega
def depF:Nat→List D→Int
  | 0,_=>0
  | n+1,a=>maxB (lst a).length (fun i=>depF n (rAt (lst a) i))+1
theorem depF_same:∀ {n m:Nat} {a:List D},wRow a < n→wRow a < m→depF n a=depF m a
  | 0,_,_,h,_=>absurd h (Nat.not_lt_zero _)
  | _+1,0,_,_,h=>absurd h (Nat.not_lt_zero _)
  | n+1,m+1,a,h,h' => by
    unfold depF
    rw [maxB_congr fun i hi=>depF_same (n:=n) (m:=m) (by have:=wLst hi;omega) (by have:=wLst hi;omega)]
def depV (a:List D):Int:=depF (wRow a+1) a
theorem depV_eq (a:List D):depV a=maxB (lst a).length (fun i=>depV (rAt (lst a) i))+1:=by
  show maxB (lst a).length (fun i=>depF (wRow a) (rAt (lst a) i))+1=_
  rw [maxB_congr fun i hi=>depF_same (n:=wRow a) (m:=wRow (rAt (lst a) i)+1) (wLst hi) (Nat.lt_succ_self _)]
  rfl
theorem depV_le:∀ (n:Nat) (a:List D),wRow a < n→depV a≤wRow a+1
  | 0,_,h=>absurd h (Nat.not_lt_zero _)
  | n+1,a,h=>by
    rw [depV_eq]
    have:maxB (lst a).length (fun i=>depV (rAt (lst a) i))≤wRow a:=maxB_le (by omega) fun i hi=>by
      have h1:=wLst hi
      have:=depV_le n (rAt (lst a) i) (by omega)
      omega
    omega
theorem depV_pos (a:List D):1≤depV a:=by
  rw [depV_eq]
  have:=maxB_nonneg (n:=(lst a).length) (F:=fun i=>depV (rAt (lst a) i))
  omega
def elK (r:List D):Bool:=iAt r 0 == 1 || (iAt r 0 == 2 || iAt r 0 == 3)
def okStep (ok:List D→Bool) (a:List D):Bool :=
  ((iAt a 0 == 3 || (lst a).length == 0) && ((iAt a 0 == 5 || ((a.getD 5 default).rows.length == 0 && (a.getD 6 default).rows.length == 0)) && ((iAt a 0 == 2 || (a.getD 3 default).str.toList == []) && (iAt a 0 == 4 || iAt a 2 == 0)))) &&
  (if iAt a 0=1 then inR (iAt a 1) (-1000000000) 1000000000 else if iAt a 0=2 then iAt a 1 == 0 && okTxt (a.getD 3 default).str else
   if iAt a 0=3 then iAt a 1 == 0 && (allB (lst a).length (fun i=>elK (rAt (lst a) i) && ok (rAt (lst a) i)) && (decide (((lst a).length:Int)≤8) && decide (depV a≤3))) else
   if iAt a 0=4 then inR (iAt a 1) (-1000000000) 1000000000 && inR (iAt a 2) (-1000000000) 1000000000 else if iAt a 0=5 then iAt a 1 == 0 && tblOk (a.getD 5 default).rows (a.getD 6 default).rows else
   if iAt a 0=6 then inR (iAt a 1) 1 8 else false)
theorem okStep_congr {f g:List D→Bool} {a:List D} (h:∀ i,i < (lst a).length→f (rAt (lst a) i)=g (rAt (lst a) i)):okStep f a=okStep g a:=by
  unfold okStep
  rw [allB_congr fun i hi=>by rw [h i hi]]
def okF:Nat→List D→Bool
  | 0,_=>false
  | n+1,a=>okStep (okF n) a
theorem okF_same:∀ {n m:Nat} {a:List D},wRow a < n→wRow a < m→okF n a=okF m a
  | 0,_,_,h,_=>absurd h (Nat.not_lt_zero _)
  | _+1,0,_,_,h=>absurd h (Nat.not_lt_zero _)
  | n+1,m+1,a,h,h' => okStep_congr fun i hi=>okF_same (n:=n) (m:=m) (by have:=wLst hi;omega) (by have:=wLst hi;omega)
def okV (a:List D):Bool:=okF (wRow a+1) a
theorem okV_eq (a:List D):okV a=okStep okV a:=okStep_congr fun i hi=>okF_same (wLst hi) (Nat.lt_succ_self _)
end Go.Proofs.YtppgalpldaibhaaGreatDoor.Ab
namespace Go.Proofs.YtppgalpldaibhaaGreatDoor.Ab
open Go
theorem decFrom_app:∀ (l r:List UInt8) (acc:Nat),Lib.decFrom acc (l++r)=(Lib.decFrom acc l).bind fun m=>Lib.decFrom m r
  | [],r,acc=>rfl
  | b :: l,r,acc=>by
    simp only [List.cons_append,Lib.decFrom]
    cases Lib.digitVal b with
    | none=>rfl
    | some d=>exact decFrom_app l r _
theorem digit_of {u:Nat} (h:u < 10):Lib.digitVal (UInt8.ofNat (48+u))=some u:=by
  have e:(UInt8.ofNat (48+u)).toNat=48+u:=by
    rw [UInt8.toNat_ofNat',Nat.mod_eq_of_lt (by omega)]
  unfold Lib.digitVal
  rw [e,if_pos (by omega)]
  congr 1
  omega
theorem digits_ne (u:Nat):Lib.decDigits u ≠ []:=by
  rw [Lib.decDigits]
  split
  · simp
  · simp
theorem digits_back (u:Nat):Lib.decFrom 0 (Lib.decDigits u)=some u:=by
  induction u using Nat.strongRecOn with
  | _ u ih =>
    rw [Lib.decDigits]
    split
    · rename_i h
      simp only [Lib.decFrom,digit_of h]
      simp
    · rename_i h
      rw [decFrom_app,ih (u / 10) (by omega),Option.bind_some]
      simp only [Lib.decFrom,digit_of (Nat.mod_lt u (by decide:0 < 10))]
      congr 1
      omega
theorem digits_mem (u:Nat):∀ b ∈ Lib.decDigits u,48≤b.toNat∧b.toNat≤57:=by
  induction u using Nat.strongRecOn with
  | _ u ih =>
    intro b hb
    rw [Lib.decDigits] at hb
    split at hb
    · rename_i h
      rw [List.mem_singleton.1 hb,UInt8.toNat_ofNat',Nat.mod_eq_of_lt (by omega)]
      omega
    · rename_i h
      rcases List.mem_append.1 hb with hb|hb
      · exact ih (u / 10) (by omega) b hb
      · have:=Nat.mod_lt u (by decide:0 < 10)
        rw [List.mem_singleton.1 hb,UInt8.toNat_ofNat',Nat.mod_eq_of_lt (by omega)]
        omega
theorem decNat_back (u:Nat):Lib.decNat (Lib.decDigits u)=some u:=by
  unfold Lib.decNat
  have:(Lib.decDigits u).isEmpty=false:=by
    cases h:Lib.decDigits u with
    | nil=>exact absurd h (digits_ne u)
    | cons b l=>rfl
  rw [this]
  exact digits_back u
theorem atoi_itoa (n:Int):Lib.atoi (Lib.itoa n)=some n:=by
  unfold Lib.itoa
  split
  · rename_i h
    unfold Lib.atoi
    simp only []
    rw [if_pos (by decide),decNat_back,Option.map_some]
    congr 1
    omega
  · rename_i h
    cases hd:Lib.decDigits n.toNat with
    | nil=>exact absurd hd (digits_ne _)
    | cons b r =>
      have hm:=digits_mem n.toNat b (by rw [hd];exact List.mem_cons_self ..)
      have h45:(b == 45)=false:=by
        rw [beq_eq_false_iff_ne]
        intro e
        rw [e] at hm
        exact absurd hm (by decide)
      have h43:(b == 43)=false:=by
        rw [beq_eq_false_iff_ne]
        intro e
        rw [e] at hm
        exact absurd hm (by decide)
      unfold Lib.atoi
      simp only []
      rw [if_neg (by rw [h45];decide),if_neg (by rw [h43];decide), ← hd,decNat_back]
      show some ((n.toNat:Nat):Int)=some n
      congr 1
      omega
def words32:List UInt8→List (List UInt8)
  | []=>[[]]
  | b :: r=>if b=32 then [] :: words32 r else match words32 r with
    | w :: ws=>(b :: w) :: ws
    | []=>[[b]]
theorem words32_ne:∀ l,words32 l ≠ []
  | []=>by simp [words32]
  | b :: r=>by
    unfold words32
    split
    · simp
    · split
      · simp
      · simp
theorem words32_app:∀ (w l:List UInt8),(∀ b ∈ w,b ≠ 32)→∀ x xs,words32 l=x :: xs→words32 (w++l)=(w++x) :: xs
  | [],l,_,x,xs,h=>h
  | b :: w,l,hw,x,xs,h=>by
    have ih:=words32_app w l (fun c hc=>hw c (List.mem_cons_of_mem _ hc)) x xs h
    rw [List.cons_append,words32,if_neg (hw b (List.mem_cons_self ..)),ih]
    rfl
theorem words32_space (l:List UInt8):words32 (32 :: l)=[] :: words32 l:=by
  rw [words32,if_pos rfl]
theorem words32_tail:∀ ws:List (List UInt8),(∀ w ∈ ws, ∀ b ∈ w,b ≠ 32)→words32 (Lib.joinTail [32] ws)=[] :: ws
  | [],_=>rfl
  | w :: ws,h=>by
    have ih:=words32_tail ws fun x hx=>h x (List.mem_cons_of_mem _ hx)
    show words32 (32 :: (w++Lib.joinTail [32] ws))=_
    rw [words32_space,words32_app w _ (h w (List.mem_cons_self ..)) _ _ ih,List.append_nil]
theorem words32_join {ws:List (List UInt8)} (hne:ws ≠ []) (h:∀ w ∈ ws, ∀ b ∈ w,b ≠ 32):words32 (Lib.join ws [32])=ws:=by
  cases ws with
  | nil=>exact absurd rfl hne
  | cons w ws =>
    have ih:=words32_tail ws fun x hx=>h x (List.mem_cons_of_mem _ hx)
    rw [Lib.join_cons,words32_app w _ (h w (List.mem_cons_self ..)) _ _ ih,List.append_nil]
theorem words32_snoc:∀ (l:List UInt8) (out:List (List UInt8)) (w:List UInt8) (b:UInt8),words32 l=out++[w]→words32 (l++[b])=if b=32 then out++[w]++[[]] else out++[w++[b]]
  | [], out,w,b,h=>by
    have h' : out=[]∧w=[]:=by
      cases out with
      | nil=>simpa [words32,eq_comm] using h
      | cons x out =>
        have:=congrArg List.length h
        simp [words32] at this
    obtain ⟨rfl,rfl⟩:=h'
    by_cases hb:b=32
    · subst hb;rfl
    · rw [if_neg hb]
      show words32 [b]=[[b]]
      rw [words32,if_neg hb]
      rfl
  | a :: l,out,w,b,h=>by
    obtain ⟨o2,w2,e2⟩:∃ o2 w2,words32 l=o2++[w2]:=by
      have:=words32_ne l
      exact ⟨(words32 l).dropLast,(words32 l).getLast this,(List.dropLast_concat_getLast this).symm⟩
    have ih:=words32_snoc l o2 w2 b e2
    rw [List.cons_append,words32]
    rw [words32] at h
    by_cases ha:a=32
    · rw [if_pos ha] at h ⊢
      rw [e2] at h
      have h2:([] :: o2)++[w2]=out++[w]:=h
      have h3:=List.append_inj' h2 rfl
      obtain ⟨h4,h5⟩:=h3
      have h6:w2=w:=by simpa using h5
      subst h4
      subst h6
      rw [ih]
      by_cases hb:b=32
      · rw [if_pos hb,if_pos hb];rfl
      · rw [if_neg hb,if_neg hb];rfl
    · rw [if_neg ha] at h ⊢
      cases o2 with
      | nil =>
        rw [e2] at h
        have h2:[]++[a :: w2]=out++[w]:=h
        obtain ⟨h4,h5⟩:=List.append_inj' h2 rfl
        have h6:a :: w2=w:=by simpa using h5
        subst h4
        subst h6
        rw [ih]
        by_cases hb:b=32
        · rw [if_pos hb,if_pos hb];rfl
        · rw [if_neg hb,if_neg hb];rfl
      | cons x o2 =>
        rw [e2] at h
        have h2:((a :: x) :: o2)++[w2]=out++[w]:=h
        obtain ⟨h4,h5⟩:=List.append_inj' h2 rfl
        have h6:w2=w:=by simpa using h5
        subst h4
        subst h6
        rw [ih]
        by_cases hb:b=32
        · rw [if_pos hb,if_pos hb];rfl
        · rw [if_neg hb,if_neg hb];rfl
end Go.Proofs.YtppgalpldaibhaaGreatDoor.Ab
namespace Go.Proofs.YtppgalpldaibhaaGreatDoor
open Go.Lib
def dg (c:UInt8):Nat:=if 48≤c.toNat∧c.toNat≤57 then c.toNat - 48 else if 97≤c.toNat∧c.toNat≤102 then c.toNat - 97+10 else 0
def pairs:List UInt8→List UInt8
  | p :: q :: t=>UInt8.ofNat (16 * dg p+dg q) :: pairs t
  | _=>[]
def encS (l:List UInt8):List UInt8:=if l=[] then [45] else Hx.encode l
def decR (l:List UInt8):List UInt8 × Bool:=if encS (pairs l)=l then (pairs l,true) else ([],false)
end Go.Proofs.YtppgalpldaibhaaGreatDoor
namespace Go.Proofs.YtppgalpldaibhaaGreatDoor.Ab
open Go.RowKit
set_option linter.unusedVariables false
open Classical in
noncomputable def prs (lo hi:Int) (s:ByteArray):Int × Bool:=if h:∃ n:Int,lo≤n∧n≤hi∧itoaB n=s then (h.choose,true) else (0,false)
theorem itoaB_list (n:Int):(itoaB n).data.toList=Lib.itoa n:=by simp [itoaB]
theorem itoaB_inj {n m:Int} (h:itoaB n=itoaB m):n=m:=by
  have h1:=congrArg (fun s=>Lib.atoi s.data.toList) h
  simp only [itoaB_list,atoi_itoa,Option.some.injEq] at h1
  exact h1
theorem prs_yes {lo hi n:Int} {s:ByteArray} (h1:lo≤n) (h2:n≤hi) (h:itoaB n=s):prs lo hi s=(n,true):=by
  have hex:∃ n:Int,lo≤n∧n≤hi∧itoaB n=s:=⟨n,h1,h2,h⟩
  unfold prs
  rw [dif_pos hex]
  have:=hex.choose_spec
  rw [itoaB_inj (this.2.2.trans h.symm)]
theorem prs_no {lo hi:Int} {s:ByteArray} (h:∀ n:Int,lo≤n→n≤hi→itoaB n ≠ s):prs lo hi s=(0,false):=dif_neg fun ⟨n,h1,h2,h3⟩=>h n h1 h2 h3
theorem prs_in {lo hi:Int} {s:ByteArray} (h1:lo≤0) (h2:0≤hi):lo≤(prs lo hi s).1∧(prs lo hi s).1≤hi:=by
  by_cases h:∃ n:Int,lo≤n∧n≤hi∧itoaB n=s
  · obtain ⟨n,h3,h4,h5⟩:=h
    rw [prs_yes h3 h4 h5]
    exact ⟨h3,h4⟩
  · rw [prs_no fun n h3 h4 h5=>h ⟨n,h3,h4,h5⟩]
    exact ⟨h1,h2⟩
theorem prs_ok {lo hi:Int} {s:ByteArray} (h:(prs lo hi s).2=true):itoaB (prs lo hi s).1=s:=by
  by_cases hx:∃ n:Int,lo≤n∧n≤hi∧itoaB n=s
  · obtain ⟨n,h3,h4,h5⟩:=hx
    rw [prs_yes h3 h4 h5]
    exact h5
  · rw [prs_no fun n h3 h4 h5=>hx ⟨n,h3,h4,h5⟩] at h
    cases h
theorem digits_head (u:Nat):(Lib.decDigits u).head? ≠ some 45:=by
  intro h
  have hm:(45:UInt8) ∈ Lib.decDigits u:=List.mem_of_mem_head? h
  exact absurd (digits_mem u _ hm) (by decide)
def tlB (l:List UInt8):List UInt8:=if l.head? = some 45 then l.drop 1 else l
theorem tlB_itoa (m:Int):tlB (Lib.itoa m)=Lib.decDigits m.natAbs∧((Lib.itoa m).head? = some 45 ↔ m < 0):=by
  unfold Lib.itoa
  split
  · rename_i h
    exact ⟨rfl,fun _=>h,fun _=>rfl⟩
  · rename_i h
    refine ⟨?_,fun h2=>absurd h2 (digits_head _),fun h2=>absurd h2 h⟩
    unfold tlB
    rw [if_neg (digits_head _)]
    congr 1
    omega
theorem digits_short {k u:Nat} (h:u < 10 ^ (k+1)):(Lib.decDigits u).length≤k+1:=decDigits_le k u h
theorem read_same {s:ByteArray} {n:Int} (N:Nat) (hN:N < 1000000000000) (hd:Lib.decFrom 0 (tlB s.data.toList)=some N) (hs:n=if s.data.toList.head? = some 45 then -(N:Int) else N) :
    prs (-999999999999) 999999999999 s=if itoaB n=s then (n,true) else (0,false):=by
  split
  · exact prs_yes (by split at hs <;> omega) (by split at hs <;> omega) ‹_›
  · rename_i hne
    refine prs_no fun m h1 h2 hm=>hne ?_
    obtain ⟨e1,e2⟩:=tlB_itoa m
    have hl:s.data.toList=Lib.itoa m:=by rw [← hm,itoaB_list]
    rw [hl,e1,digits_back] at hd
    have hN' : m.natAbs=N:=Option.some.inj hd
    have:n=m:=by
      rw [hs,hl]
      split
      · rename_i h;have:=e2.1 h;omega
      · rename_i h;have:¬ m < 0:=fun h' => h (e2.2 h');omega
    rw [this]
    exact hm
theorem read_len {s:ByteArray} (h:(tlB s.data.toList).length < 1∨(tlB s.data.toList).length > 12):prs (-999999999999) 999999999999 s=(0,false):=by
  refine prs_no fun m h1 h2 hm=>?_
  have hl:s.data.toList=Lib.itoa m:=by rw [← hm,itoaB_list]
  obtain ⟨e1,_⟩:=tlB_itoa m
  rw [hl,e1] at h
  have:=digits_short (k:=11) (u:=m.natAbs) (by simp only [Nat.reduceAdd,Nat.reducePow];omega)
  have h0:0 < (Lib.decDigits m.natAbs).length:=List.length_pos_iff.2 (digits_ne _)
  omega
theorem read_bad {s:ByteArray} {i:Nat} {b:UInt8} (hb:(tlB s.data.toList)[i]? = some b) (h:b.toNat < 48∨57 < b.toNat) (lo hi:Int):prs lo hi s=(0,false):=by
  refine prs_no fun m h1 h2 hm=>?_
  have hl:s.data.toList=Lib.itoa m:=by rw [← hm,itoaB_list]
  obtain ⟨e1,_⟩:=tlB_itoa m
  rw [hl,e1] at hb
  have:=digits_mem m.natAbs b (List.mem_of_getElem? hb)
  omega
theorem digit_val {b:UInt8} (h1:48≤b.toNat) (h2:b.toNat≤57):Lib.digitVal b=some (b.toNat - 48):=by
  unfold Lib.digitVal
  rw [if_pos ⟨h1,h2⟩]
theorem read_next {l:List UInt8} {i N:Nat} {b:UInt8} (hd:Lib.decFrom 0 (l.take i)=some N) (hb:l[i]? = some b) (h1:48≤b.toNat) (h2:b.toNat≤57) :
    Lib.decFrom 0 (l.take (i+1))=some (N * 10+(b.toNat - 48)):=Lib.decFrom_take l i 0 N b _ hd hb (digit_val h1 h2)
theorem itoaB_long {n:Int} {s:ByteArray} (h:18 < s.size) (h1:-999999999999≤n) (h2:n≤999999999999):itoaB n ≠ s:=by
  intro e
  have hl:(Lib.itoa n).length=s.size:=by rw [← itoaB_list,e,Array.length_toList];rfl
  have:=digits_short (k:=11) (u:=n.natAbs) (by simp only [Nat.reduceAdd,Nat.reducePow];omega)
  unfold Lib.itoa at hl
  split at hl
  · rw [List.length_cons] at hl;omega
  · rw [show n.toNat=n.natAbs by omega] at hl;omega
def wordsB (s:ByteArray):List ByteArray:=(words32 s.data.toList).map fun w=>⟨w.toArray⟩
theorem words32_cut (w r:List UInt8) (h:∀ b ∈ w,b ≠ 32):words32 (w++32 :: r)=w :: words32 r:=by
  have:=words32_app w (32 :: r) h [] (words32 r) (words32_space r)
  rw [this,List.append_nil]
theorem words32_none (w:List UInt8) (h:∀ b ∈ w,b ≠ 32):words32 w=[w]:=by
  have:=words32_app w [] h [] [] rfl
  simp only [List.append_nil] at this
  exact this
theorem split_words:∀ (k:Nat) (s:ByteArray),s.size≤k→Lib.splitB ⟨#[32]⟩ 0 (Lib.countB s ⟨#[32]⟩) s=wordsB s
  | k, s, hk=>by
    have one:Lib.indexB s ⟨#[32]⟩=Lib.indexByte s.data.toList 32:=Lib.one s ⟨#[32]⟩ rfl
    have ge:=Lib.indexByte_ge s.data.toList 32
    rcases (by omega:Lib.indexByte s.data.toList 32 = -1∨0≤Lib.indexByte s.data.toList 32) with h|h
    · rw [Lib.countB_miss _ _ (one.trans h),Lib.splitB_zero]
      have hn:∀ b ∈ s.data.toList,b ≠ 32:=fun b hb e=>by
        obtain ⟨i,hi⟩:=List.getElem?_of_mem hb
        exact Lib.indexByte_none h i (e ▸ hi)
      unfold wordsB
      rw [words32_none _ hn]
      rfl
    · obtain ⟨i,hi⟩:∃ i:Nat,Lib.indexByte s.data.toList 32=i:=⟨_,(Int.toNat_of_nonneg h).symm⟩
      obtain ⟨h1,h2⟩:=Lib.indexByte_some hi
      have hlt:i < s.data.toList.length:=(List.getElem?_eq_some_iff.1 h1).1
      have hsz:s.data.toList.length=s.size:=by rw [Array.length_toList];rfl
      rw [Lib.countB_hit _ _ i (by decide) (one.trans hi),Nat.add_comm,Lib.splitB_hit _ _ _ _ i (one.trans hi)]
      have hl:s.data.toList=s.data.toList.take i++32 :: s.data.toList.drop (i+1):=by
        have h3:s.data.toList[i]=32:=(List.getElem?_eq_some_iff.1 h1).2
        rw [← h3,List.getElem_cons_drop,List.take_append_drop]
      have hw:words32 s.data.toList=s.data.toList.take i :: words32 (s.data.toList.drop (i+1)):=by
        conv=>lhs;rw [hl]
        exact words32_cut _ _ fun b hb e=>by
          obtain ⟨j,hj⟩:=List.getElem?_of_mem hb
          have hj1:=(List.getElem?_eq_some_iff.1 hj).1
          rw [List.length_take] at hj1
          rw [List.getElem?_take_of_lt (by omega)] at hj
          exact h2 j (by omega) (e ▸ hj)
      have ih:=split_words (k - 1) (s.extract (i+1) s.size) (by rw [ByteArray.size_extract];omega)
      have e1:(s.extract (i+1) s.size).data.toList=s.data.toList.drop (i+1):=by
        rw [ByteArray.data_extract,Array.toList_extract]
        rw [List.extract_eq_drop_take', ← hsz,List.take_length]
      have e0:s.extract 0 (i+0)=⟨(s.data.toList.take i).toArray⟩:=by
        apply ByteArray.ext
        apply Array.ext'
        rw [ByteArray.data_extract,Array.toList_extract,List.extract_eq_drop_take']
        simp
      show s.extract 0 (i+0) :: Lib.splitB ⟨#[32]⟩ 0 (Lib.countB (s.extract (i+1) s.size) ⟨#[32]⟩) (s.extract (i+1) s.size)=_
      rw [ih,e0]
      unfold wordsB
      rw [hw,e1]
      rfl
  termination_by k s=>s.size
  decreasing_by
    rw [ByteArray.size_extract]
    have:s.data.toList.length=s.size:=by rw [Array.length_toList];rfl
    omega
theorem words32_len:∀ (l:List UInt8), ∀ w ∈ words32 l,w.length≤l.length
  | [],w,h=>by
    rw [words32] at h
    rw [List.mem_singleton.1 h]
    exact Nat.le_refl _
  | b :: r,w,h=>by
    have ih:=words32_len r
    rw [words32] at h
    split at h
    · rcases List.mem_cons.1 h with rfl|h
      · exact Nat.zero_le _
      · have:=ih w h;rw [List.length_cons];omega
    · split at h
      · rename_i x xs hx
        rcases List.mem_cons.1 h with rfl|h
        · have:=ih x (by rw [hx];exact List.mem_cons_self ..)
          rw [List.length_cons,List.length_cons];omega
        · have:=ih w (by rw [hx];exact List.mem_cons_of_mem _ h)
          rw [List.length_cons];omega
      · rw [List.mem_singleton.1 h,List.length_cons,List.length_cons]
        simp
theorem words32_count:∀ (l:List UInt8),(words32 l).length≤l.length+1
  | []=>Nat.le_refl _
  | b :: r=>by
    have ih:=words32_count r
    rw [words32]
    split
    · rw [List.length_cons,List.length_cons];omega
    · split
      · rename_i x xs hx
        rw [hx,List.length_cons] at ih
        rw [List.length_cons,List.length_cons];omega
      · rw [List.length_cons,List.length_cons];simp
theorem wordsB_size {s x:ByteArray} (h:x ∈ wordsB s):x.size≤s.size:=by
  obtain ⟨w,hw,rfl⟩:=List.mem_map.1 h
  have hs:s.data.toList.length=s.size:=by rw [Array.length_toList];rfl
  have:=words32_len _ w hw
  show w.toArray.size≤_
  rw [List.size_toArray];omega
theorem wordsB_length (s:ByteArray):(wordsB s).length≤s.size+1:=by
  have hs:s.data.toList.length=s.size:=by rw [Array.length_toList];rfl
  have:=words32_count s.data.toList
  unfold wordsB
  rw [List.length_map];omega
def decT (s:ByteArray):ByteArray × Bool:=(⟨(decR s.data.toList).1.toArray⟩,(decR s.data.toList).2)
abbrev sArg (s:ByteArray):SV:=.val false [.s s]
abbrev iArg (n:Int):SV:=.val false [.i .i64 n]
noncomputable def prsR (lo hi:Int) (s:ByteArray):SV:=.tup [(false,[.i .i64 (prs lo hi s).1]),(false,[.b (prs lo hi s).2])]
noncomputable def spRead:FSpec where
  pre args:=∃ s:ByteArray,args=[sArg s,iArg 12]
  res args:=match args with
    | [.val _ [.s s],_]=>prsR (-999999999999) 999999999999 s
    | _=>.none
noncomputable def spPrs (lo hi:Int):FSpec where
  pre args:=∃ s:ByteArray,s.size≤281474976710656∧args=[sArg s]
  res args:=match args with
    | [.val _ [.s s]]=>prsR lo hi s
    | _=>.none
noncomputable def spPar:FSpec where
  pre args:=∃ (s:ByteArray) (lo hi:Int),s.size≤281474976710656 ∧ -999999999999≤lo∧hi≤999999999999∧args=[sArg s,iArg lo,iArg hi]
  res args:=match args with
    | [.val _ [.s s],.val _ [.i _ lo],.val _ [.i _ hi]]=>prsR lo hi s
    | _=>.none
def spSplit (o:Bool):FSpec where
  pre args:=∃ s:ByteArray,s.size≤1048576∧args=[sArg s,.val false [.i .u8 32]]
  res args:=match args with
    | [.val _ [.s s],_]=>.val false [.sl o 9 (strRows (wordsB s))]
    | _=>.none
def spSplit2:FSpec where
  pre args:=∃ s:ByteArray,s.size≤1048576∧args=[sArg s,sArg ⟨#[32]⟩]
  res args:=match args with
    | [.val _ [.s s],_]=>.val false [.sl false 9 (strRows (wordsB s))]
    | _=>.none
theorem resP {lo hi:Int} {s:ByteArray} {n:Int} {b:Bool} (h:prs lo hi s=(n,b)):[(false,[CV.i .i64 n]),(false,[CV.b b])]=[(false,[CV.i .i64 (prs lo hi s).1]),(false,[CV.b (prs lo hi s).2])]:=by rw [h]
theorem list_getD {s:ByteArray} {i:Nat} (h:i < s.size):s.data.toList[i]? = some (s.data.getD i 0):=by
  have hs:i < s.data.size:=h
  rw [Array.getElem?_toList,Array.getD,dif_pos hs,Array.getElem?_eq_getElem hs]
  rfl
theorem head_is {s:ByteArray} (h0:decide ((s.size:Int) > 0)=true) (h:(((s.data.getD (Int.toNat 0) 0).toNat:Int) == 45)=true):s.data.toList.head? = some 45:=by
  have h1:0 < s.size:=by have:=of_decide_eq_true h0;omega
  rw [List.head?_eq_getElem?,list_getD h1]
  have:(s.data.getD 0 0).toNat=45:=by have h2:((s.data.getD 0 0).toNat:Int)=45:=eq_of_beq h;omega
  exact congrArg some (UInt8.toNat_inj.1 this)
theorem head_isnt {s:ByteArray} (h0:decide ((s.size:Int) > 0)=true) (h:(((s.data.getD (Int.toNat 0) 0).toNat:Int) == 45)=false):s.data.toList.head? ≠ some 45:=by
  have h1:0 < s.size:=by have:=of_decide_eq_true h0;omega
  rw [List.head?_eq_getElem?,list_getD h1]
  intro e
  have h2:((s.data.getD 0 0).toNat:Int)=45:=by rw [Option.some.inj e];rfl
  have h3:((s.data.getD 0 0).toNat:Int) ≠ 45:=by simpa using h
  exact h3 h2
theorem tl_is {s:ByteArray} (h:s.data.toList.head? = some 45):tlB s.data.toList=(s.extract (Int.toNat 1) (s.size:Int).toNat).data.toList:=by
  have hsz:s.data.toList.length=s.size:=by rw [Array.length_toList];rfl
  unfold tlB
  rw [if_pos h,ByteArray.data_extract,Array.toList_extract,List.extract_eq_drop_take',Int.toNat_natCast, ← hsz,List.take_length]
  rfl
theorem tl_isnt {s:ByteArray} (h:s.data.toList.head? ≠ some 45):tlB s.data.toList=s.data.toList:=if_neg h
theorem tl_size {s t:ByteArray} (h:tlB s.data.toList=t.data.toList):(tlB s.data.toList).length=t.size:=by rw [h,Array.length_toList];rfl
def RI (t:ByteArray) (N i:Nat):Prop:=Lib.decFrom 0 (t.data.toList.take i)=some N∧N < 10 ^ i∧i≤t.size
theorem RI.zero (t:ByteArray):RI t 0 0:=⟨rfl,by decide,Nat.zero_le _⟩
theorem RI.small {t:ByteArray} {N i:Nat} (h:RI t N i) (ht:t.size≤12):N < 1000000000000:=Nat.lt_of_lt_of_le h.2.1 (Nat.le_trans (Nat.pow_le_pow_right (by decide) (Nat.le_trans h.2.2 ht)) (by decide))
theorem RI.less {t:ByteArray} {N i:Nat} (h:RI t N i) (hi:i < t.size) (ht:t.size≤12):N < 100000000000:=Nat.lt_of_lt_of_le h.2.1 (Nat.le_trans (Nat.pow_le_pow_right (by decide) (show i≤11 by omega)) (by decide))
theorem RI.next {t:ByteArray} {N i:Nat} (h:RI t N i) (hi:i < t.size) (h1:¬ (t.data.getD i 0).toNat < 48) (h2:¬ (t.data.getD i 0).toNat > 57):RI t (N * 10+((t.data.getD i 0).toNat - 48)) (i+1):=by
  refine ⟨read_next h.1 (list_getD hi) (by omega) (by omega),?_,hi⟩
  have:=h.2.1
  rw [Nat.pow_succ]
  omega
theorem RI.all {t:ByteArray} {N i:Nat} (h:RI t N i) (hi:¬ i < t.size):Lib.decFrom 0 t.data.toList=some N:=by
  have hsz:t.data.toList.length=t.size:=by rw [Array.length_toList];rfl
  have:=h.1
  rw [List.take_of_length_le (by omega)] at this
  exact this
theorem RI.num {t:ByteArray} {N i:Nat} (h:RI t N i) (hi:i < t.size) (ht:t.size≤12) (h1:¬ (t.data.getD i 0).toNat < 48) (h2:¬ (t.data.getD i 0).toNat > 57) :
    IntKind.i64.wrap (IntKind.i64.wrap (10 * (N:Int))+IntKind.i64.wrap (IntKind.u8.wrap (((t.data.getD i 0).toNat:Int) - 48)))=((N * 10+((t.data.getD i 0).toNat - 48):Nat):Int):=by
  have hN:=h.less hi ht
  have e1:IntKind.u8.wrap (((t.data.getD i 0).toNat:Int) - 48)=((t.data.getD i 0).toNat:Int) - 48:=IntWalk.u8_in _ (by omega)
  have e2:IntKind.i64.wrap (((t.data.getD i 0).toNat:Int) - 48)=((t.data.getD i 0).toNat:Int) - 48:=IntWalk.i64_in _ (by omega)
  have e3:IntKind.i64.wrap (10 * (N:Int))=10 * (N:Int):=IntWalk.i64_in _ (by omega)
  rw [e1,e2,e3,IntWalk.i64_in _ (by omega)]
  omega
theorem read_short {s t:ByteArray} (h:tlB s.data.toList=t.data.toList) (hd:decide ((t.size:Int) < 1)=true∨decide ((t.size:Int) > 12)=true):prs (-999999999999) 999999999999 s=(0,false):=by
  refine read_len ?_
  rw [tl_size h]
  rcases hd with h1|h1
  · have:=of_decide_eq_true h1;omega
  · have:=of_decide_eq_true h1;omega
theorem head_none {s:ByteArray} (h0:decide ((s.size:Int) > 0)=false):s.data.toList.head? ≠ some 45:=by
  have h1:s.size=0:=by have:=of_decide_eq_false h0;omega
  have h2:s.data.toList=[]:=List.length_eq_zero_iff.1 (by rw [Array.length_toList];exact h1)
  rw [h2]
  simp
theorem read_less {s t:ByteArray} {i:Nat} (h:tlB s.data.toList=t.data.toList) (hi:i < t.size) (hd:decide (((t.data.getD (Int.toNat (i:Int)) 0).toNat:Int) < 48)=true∨decide (((t.data.getD (Int.toNat (i:Int)) 0).toNat:Int) > 57)=true) (lo hi' : Int):prs lo hi' s=(0,false):=by
  refine read_bad (i:=i) (b:=t.data.getD i 0) (by rw [h];exact list_getD hi) ?_ _ _
  rcases hd with h1|h1
  · exact .inl (by have:=of_decide_eq_true h1;rw [Int.toNat_natCast] at this;omega)
  · exact .inr (by have:=of_decide_eq_true h1;rw [Int.toNat_natCast] at this;omega)
theorem dig_of {t:ByteArray} {i:Nat} (h1:decide (((t.data.getD (Int.toNat (i:Int)) 0).toNat:Int) < 48)=false) (h2:decide (((t.data.getD (Int.toNat (i:Int)) 0).toNat:Int) > 57)=false) :
    ¬ (t.data.getD i 0).toNat < 48∧¬ (t.data.getD i 0).toNat > 57:=by
  have h3:=of_decide_eq_false h1
  have h4:=of_decide_eq_false h2
  rw [Int.toNat_natCast] at h3 h4
  exact ⟨by omega,by omega⟩
theorem read_endT {s:ByteArray} {lo hi n n' : Int} (hn:n' = n) (hd:prs lo hi s=if itoaB n=s then (n,true) else (0,false)) (h:(!(itoaB n').toList == s.toList)=true):prs lo hi s=(0,false):=by
  subst hn
  rw [hd,if_neg]
  intro e
  rw [e] at h
  simp at h
theorem read_endF {s:ByteArray} {lo hi n n' : Int} (hn:n' = n) (hd:prs lo hi s=if itoaB n=s then (n,true) else (0,false)) (h:(!(itoaB n').toList == s.toList)=false):prs lo hi s=(n',true):=by
  subst hn
  rw [hd,if_pos]
  have h2:((itoaB n').toList == s.toList)=true:=by simpa using h
  exact (str_inj _ _).mp (eq_of_beq h2)
theorem snapI {f:Int→Int→Snap} {r r' a b:Int} (h:r=r') (h2:a=b):f r a=f r' b:=by rw [h,h2]
variable {T:Tab}
def spTB (p:ByteArray→Bool):FSpec where
  pre args:=∃ s:ByteArray,args=[sArg s]
  res args:=match args with
    | [.val _ [.s s]]=>.val false [.b (p s)]
    | _=>.none
def spSB (e:TypeId) (p:List (List D)→Bool):FSpec where
  pre args:=∃ a:List (List D),args=[argS e a]
  res args:=match args with
    | [.val _ [.sl _ _ a]]=>.val false [.b (p a)]
    | _=>.none
def spSTB (p:List (List D)→ByteArray→Bool):FSpec where
  pre args:=∃ (a:List (List D)) (s:ByteArray),args=[argS 9 a,sArg s]
  res args:=match args with
    | [.val _ [.sl _ _ a],.val _ [.s s]]=>.val false [.b (p a s)]
    | _=>.none
def spSTI (p:List (List D)→ByteArray→Int):FSpec where
  pre args:=∃ (a:List (List D)) (s:ByteArray),args=[argS 9 a,sArg s]
  res args:=match args with
    | [.val _ [.sl _ _ a],.val _ [.s s]]=>.val false [.i .i64 (p a s)]
    | _=>.none
def spGB (T:Tab) (cts:List CT) (Sm:List D→Prop) (p:List D→Bool):FSpec where
  pre args:=∃ a:List D,WfRow T cts a∧Sm a∧args=[argG cts a]
  res args:=match args with
    | [.val _ cs]=>.val false [.b (p (csD cs))]
    | _=>.none
def spGGB (T:Tab) (cts:List CT) (p:List D→List D→Bool):FSpec where
  pre args:=∃ a b:List D,WfRow T cts a∧WfRow T cts b∧args=[argG cts a,argG cts b]
  res args:=match args with
    | [.val _ cs,.val _ ds]=>.val false [.b (p (csD cs) (csD ds))]
    | _=>.none
def spGI (T:Tab) (cts:List CT) (Sm:List D→Prop) (p:List D→Int):FSpec where
  pre args:=∃ a:List D,WfRow T cts a∧Sm a∧args=[argG cts a]
  res args:=match args with
    | [.val _ cs]=>.val false [.i .i64 (p (csD cs))]
    | _=>.none
def spMax:FSpec where
  pre args:=∃ x y:Int,args=[iArg x,iArg y]
  res args:=match args with
    | [.val _ [.i _ x],.val _ [.i _ y]]=>.val false [.i .i64 (max x y)]
    | _=>.none
def spWords (xs:List ByteArray):FSpec where
  pre args:=args=[]
  res _:=argS 9 (strRows xs)
theorem wrapN {i n:Nat} (hi:i < n) (hn:n≤maxLen):IntKind.i64.wrap ((i:Int)+1)=((i+1:Nat):Int):=by
  simp only [maxLen] at hn
  rw [IntKind.wrap_i64];omega
theorem ltN {i n:Nat} (h:decide ((i:Int) < (n:Int))=true):i < n:=by have:=of_decide_eq_true h;omega
theorem nltN {i n:Nat} (h:decide ((i:Int) < (n:Int))=false):¬ i < n:=by have:=of_decide_eq_false h;omega
theorem nolt (P:Nat→Prop):∀ j,j < 0→P j:=fun j h=>absurd h (Nat.not_lt_zero j)
theorem resBs {n i:Nat} {P:Nat→Bool} {q:Bool} (hi:i < n) (h:P i=false):[CV.b false]=[CV.b (allB n P && q)]:=by rw [allB_stop hi h];rfl
theorem resBs' {n i:Nat} {P:Nat→Bool} (hi:i < n) (h:P i=false):[CV.b false]=[CV.b (allB n P)]:=by rw [allB_stop hi h]
theorem resBe {n i:Nat} {P:Nat→Bool} {q r:Bool} (h:∀ j,j < i→P j=true) (hi:¬ i < n) (hq:r=q):[CV.b r]=[CV.b (allB n P && q)]:=by rw [allB_end h hi,hq];rfl
theorem resBe' {n i:Nat} {P:Nat→Bool} (h:∀ j,j < i→P j=true) (hi:¬ i < n):[CV.b true]=[CV.b (allB n P)]:=by rw [allB_end h hi]
theorem resBn {n i:Nat} {P:Nat→Bool} (hi:i < n) (h:P i=false):[CV.b true]=[CV.b (!allB n P)]:=by rw [allB_stop hi h];rfl
theorem resBm {n i:Nat} {P:Nat→Bool} (h:∀ j,j < i→P j=true) (hi:¬ i < n):[CV.b false]=[CV.b (!allB n P)]:=by rw [allB_end h hi];rfl
theorem resIh {n i:Nat} {P:Nat→Bool} (hi:i < n) (h:P i=true) (hb:∀ j,j < i→(!P j)=true):[CV.i .i64 (i:Int)]=[CV.i .i64 (firstB n P)]:=by rw [firstB_hit hi h hb]
theorem resIn {n i:Nat} {P:Nat→Bool} (hb:∀ j,j < i→(!P j)=true) (hi:¬ i < n):[CV.i .i64 (-1)]=[CV.i .i64 (firstB n P)]:=by rw [firstB_none fun j hj=>hb j (by omega)]
theorem notT {b:Bool} (h:b=true):(!b)=false:=by rw [h];rfl
theorem notF {b:Bool} (h:b=false):(!b)=true:=by rw [h];rfl
theorem of_notT {b:Bool} (h:(!b)=true):b=false:=by simpa using h
theorem of_notF {b:Bool} (h:(!b)=false):b=true:=by simpa using h
theorem lt48 (x:Int):decide (x < 48)=!decide (x ≥ 48):=by rw [← decide_not];exact decide_eq_decide.2 (by omega)
theorem gt57 (x:Int):decide (x > 57)=!decide (x≤57):=by rw [← decide_not];exact decide_eq_decide.2 (by omega)
def nameIm (s:ByteArray):Bool:=allB s.size (wordB s) && inR s.size 1 8
theorem nameIm_eq (s:ByteArray):(nameIm s && !isResv s)=nameOk s:=by
  unfold nameIm nameOk nameSh inR
  have:decide ((1:Int)≤(s.size:Int))=decide ((s.size:Int) > 0):=decide_eq_decide.2 (by omega)
  rw [this]
  cases allB s.size (wordB s) <;> cases decide ((s.size:Int) > 0) <;> cases decide ((s.size:Int)≤8) <;> cases isResv s <;> rfl
theorem hasT_any (xs:List ByteArray) (s:ByteArray):hasT (strRows xs) s=xs.any fun x=>s.toList == x.toList:=by
  have h1:∀ k (hk:k < xs.length),tAt (strRows xs) k=xs[k]:=by
    intro k hk
    simp [tAt,strRows,List.getD_eq_getElem?_getD,List.getElem?_eq_getElem hk,D.str]
  rw [Bool.eq_iff_iff]
  unfold hasT
  rw [Bool.not_eq_true', ← Bool.not_eq_true,allB_iff,List.any_eq_true]
  have hl:(strRows xs).length=xs.length:=List.length_map _
  rw [hl]
  constructor
  · intro h
    refine Classical.byContradiction fun hn=>h fun i hi=>?_
    have:(xs[i].toList == s.toList)=false:=by
      rw [beq_eq_false_iff_ne]
      intro he
      exact hn ⟨xs[i],List.getElem_mem hi,by rw [he];exact beq_self_eq_true _⟩
    simp only [isAt,h1 i hi,this,Bool.not_false]
  · rintro ⟨x,hx,he⟩ h
    obtain ⟨i,hi,rfl⟩:=List.mem_iff_getElem.1 hx
    have:=h i hi
    simp only [isAt,h1 i hi] at this
    rw [eq_of_beq he] at this
    simp at this
theorem hasT_resv (s:ByteArray):hasT (strRows resvB) s=isResv s:=hasT_any resvB s
def argC (s:ByteArray):Int :=
  if (s.toList == (⟨#[99,108,111,99,107]⟩:ByteArray).toList)=true then 0 else
  if ((s.toList == (⟨#[108,101,110]⟩:ByteArray).toList) || ((s.toList == (⟨#[115,117,109]⟩:ByteArray).toList) || ((s.toList == (⟨#[114,111,119,115]⟩:ByteArray).toList) || ((s.toList == (⟨#[99,104,97,110,99,101]⟩:ByteArray).toList) || (s.toList == (⟨#[102,105,108,101]⟩:ByteArray).toList)))))=true then 1 else
  if ((s.toList == (⟨#[116,97,107,101]⟩:ByteArray).toList) || ((s.toList == (⟨#[115,107,105,112]⟩:ByteArray).toList) || ((s.toList == (⟨#[114,97,110,103,101]⟩:ByteArray).toList) || ((s.toList == (⟨#[110,116,104]⟩:ByteArray).toList) || ((s.toList == (⟨#[107,101,101,112]⟩:ByteArray).toList) || ((s.toList == (⟨#[99,111,108,117,109,110]⟩:ByteArray).toList) || (s.toList == (⟨#[116,97,98,108,101]⟩:ByteArray).toList)))))))=true then 2 else
  if ((s.toList == (⟨#[119,104,101,114,101]⟩:ByteArray).toList) || ((s.toList == (⟨#[103,114,111,117,112]⟩:ByteArray).toList) || (s.toList == (⟨#[106,111,105,110]⟩:ByteArray).toList)))=true then 3 else
  if (s.toList == (⟨#[97,100,100]⟩:ByteArray).toList)=true then 4 else -1
def spArgC:FSpec where
  pre args:=∃ s:ByteArray,args=[sArg s]
  res args:=match args with
    | [.val _ [.s s]]=>.val false [.i .i64 (argC s)]
    | _=>.none
def resvI (s:ByteArray):Bool :=
  ((s.toList == (⟨#[108,101,116]⟩:ByteArray).toList) || ((s.toList == (⟨#[105,110]⟩:ByteArray).toList) || ((s.toList == (⟨#[105,102]⟩:ByteArray).toList) || ((s.toList == (⟨#[116,104,101,110]⟩:ByteArray).toList) || ((s.toList == (⟨#[101,108,115,101]⟩:ByteArray).toList) || ((s.toList == (⟨#[102,111,114]⟩:ByteArray).toList) || (s.toList == (⟨#[100,111]⟩:ByteArray).toList))))))) || decide (argC s ≥ 0)
theorem ite_ge {b:Bool} {c x:Int} (hc:c ≥ 0):decide ((if b=true then c else x) ≥ 0)=(b || decide (x ≥ 0)):=by
  cases b
  · rfl
  · simp [hc]
theorem resvI_eq (s:ByteArray):resvI s=isResv s:=by
  unfold resvI argC isResv resvB
  rw [ite_ge (by decide),ite_ge (by decide),ite_ge (by decide),ite_ge (by decide),ite_ge (by decide)]
  simp only [List.any_cons,List.any_nil,show decide ((-1:Int) ≥ 0)=false from rfl,Bool.or_false]
  ac_rfl
theorem dist_yes {rows:List (List D)} {i:Nat} (hi:i < rows.length) (h:(idxT rows (tAt rows i) != (i:Int))=false):(!hasT (rows.take i) (tAt rows i))=true:=by
  rw [← idxT_dist hi]
  simpa [bne] using h
theorem dist_no {rows:List (List D)} {i:Nat} (hi:i < rows.length) (h:(idxT rows (tAt rows i) != (i:Int))=true):(!hasT (rows.take i) (tAt rows i))=false:=by
  rw [← idxT_dist hi]
  simpa [bne] using h
abbrev CO:List CT:=[.i .i64,.i .i64]
theorem ascB_eq (l:List (List D)) (i:Nat):ascB l i=!((decide (iAt (rAt l i) 0 < 0) || decide (iAt (rAt l i) 1 < 0)) || (decide ((i:Int) > 0) && !befO (rAt l (i - 1)) (rAt l i))):=rfl
theorem asc_no1 {l:List (List D)} {i:Nat} (h:decide (iAt (rAt l i) 0 < 0)=true):ascB l i=false:=by rw [ascB_eq,h];simp
theorem asc_no2 {l:List (List D)} {i:Nat} (h:decide (iAt (rAt l i) 1 < 0)=true):ascB l i=false:=by rw [ascB_eq,h];simp
theorem wrapP {i:Nat} {n:Nat} (h:(i:Int) > 0) (hi:i < n) (hn:n≤maxLen):IntKind.i64.wrap ((i:Int) - 1)=((i - 1:Nat):Int):=by
  simp only [maxLen] at hn
  rw [IntKind.wrap_i64];omega
theorem asc_no3 {l:List (List D)} {i:Nat} {x:Int} (hx:x=((i - 1:Nat):Int)) (h0:decide ((i:Int) > 0)=true) (h:(!befO (l.getD x.toNat []) (rAt l i))=true):ascB l i=false:=by
  subst hx
  rw [ascB_eq,h0,show befO (rAt l (i - 1)) (rAt l i)=false from of_notT h]
  simp
theorem asc_yes1 {l:List (List D)} {i:Nat} (h:decide (iAt (rAt l i) 0 < 0)=false) (h' : decide (iAt (rAt l i) 1 < 0)=false) (h0:decide ((i:Int) > 0)=false):ascB l i=true:=by rw [ascB_eq,h,h',h0];rfl
theorem asc_yes2 {l:List (List D)} {i:Nat} {x:Int} (hx:x=((i - 1:Nat):Int)) (h:decide (iAt (rAt l i) 0 < 0)=false) (h' : decide (iAt (rAt l i) 1 < 0)=false) (hb:(!befO (l.getD x.toNat []) (rAt l i))=false):ascB l i=true:=by
  subst hx
  rw [ascB_eq,h,h',show befO (rAt l (i - 1)) (rAt l i)=true from of_notF hb]
  simp
def tblV (a:List D):Bool:=tblOk (a.getD 5 default).rows (a.getD 6 default).rows
theorem row_no1 {n:Nat} {r:List D} (h:(((r.getD 0 default).rows.length:Int) != (n:Int))=true):rowOk n r=false:=by
  have:(((r.getD 0 default).rows.length:Int) == (n:Int))=false:=by simpa [bne] using h
  unfold rowOk;rw [this];rfl
theorem row_len {n:Nat} {r:List D} (h:(((r.getD 0 default).rows.length:Int) != (n:Int))=false):(((r.getD 0 default).rows.length:Int) == (n:Int))=true:=by simpa [bne] using h
theorem row_no2 {n:Nat} {r:List D} (h:ascOk (r.getD 1 default).rows=false):rowOk n r=false:=by
  unfold rowOk;rw [h];simp
theorem row_no3 {n:Nat} {r:List D} (h:numsOk (r.getD 0 default).rows=false):rowOk n r=false:=by
  unfold rowOk;rw [h];simp
theorem row_yes {n:Nat} {r:List D} (h:(((r.getD 0 default).rows.length:Int) == (n:Int))=true) (h2:ascOk (r.getD 1 default).rows=true) (h3:numsOk (r.getD 0 default).rows=true):rowOk n r=true:=by
  unfold rowOk;rw [h,h2,h3];rfl
theorem tbl_no1 {a:List D} (h:colsOk (a.getD 5 default).rows=false):[CV.b false]=[CV.b (tblV a)]:=by unfold tblV tblOk;rw [h];rfl
theorem tbl_no2 {a:List D} (h:decide (((a.getD 6 default).rows.length:Int) > 12)=true):[CV.b false]=[CV.b (tblV a)]:=by
  have:decide (((a.getD 6 default).rows.length:Int)≤12)=false:=by have:=of_decide_eq_true h;rw [decide_eq_false_iff_not];omega
  unfold tblV tblOk;rw [this];simp
theorem tbl_no3 {a:List D} {i:Nat} (hi:i < (a.getD 6 default).rows.length) (h:rowOk (a.getD 5 default).rows.length (rAt (a.getD 6 default).rows i)=false):[CV.b false]=[CV.b (tblV a)]:=by
  unfold tblV tblOk rowsOk;rw [allB_stop hi h];simp
theorem tbl_yes {a:List D} {i:Nat} (h1:colsOk (a.getD 5 default).rows=true) (h2:decide (((a.getD 6 default).rows.length:Int) > 12)=false) (h3:∀ j,j < i→rowOk (a.getD 5 default).rows.length (rAt (a.getD 6 default).rows j)=true) (hi:¬ i < (a.getD 6 default).rows.length):[CV.b true]=[CV.b (tblV a)]:=by
  have:decide (((a.getD 6 default).rows.length:Int)≤12)=true:=by have:=of_decide_eq_false h2;rw [decide_eq_true_eq];omega
  unfold tblV tblOk rowsOk;rw [h1,this,allB_end h3 hi];rfl
abbrev WM:Nat:=1099511627776
def SmN (n:Nat) (a:List D):Prop:=wRow a < n∧wRow a≤WM
def SmM (a:List D):Prop:=wRow a≤WM
def listV (a:List D):Bool:=allB (lst a).length (fun i=>elK (rAt (lst a) i) && okV (rAt (lst a) i)) && (decide (((lst a).length:Int)≤8) && decide (depV a≤3))
theorem SmN.lst {n:Nat} {a:List D} (h:SmN (n+1) a) {i:Nat} (hi:i < (Ab.lst a).length):SmN n (rAt (Ab.lst a) i):=by
  have:=wLst hi
  exact ⟨by have:=h.1;omega,by have:=h.2;omega⟩
theorem SmM.lst {a:List D} (h:SmM a) {i:Nat} (hi:i < (Ab.lst a).length):SmM (rAt (Ab.lst a) i):=by
  have:=wLst hi
  unfold SmM at h ⊢
  omega
theorem depB {a:List D} (h:wRow a≤WM):depV a≤1099511627777:=by
  have:=depV_le _ a (Nat.lt_succ_self _)
  have h' : wRow a≤1099511627776:=h
  omega
theorem mxB_bnd {a:List D} (h:wRow a≤WM) (i:Nat) (hi:i≤(lst a).length):0≤maxB i (fun j=>depV (rAt (lst a) j))∧maxB i (fun j=>depV (rAt (lst a) j))≤1099511627777:=by
  refine ⟨maxB_nonneg,maxB_le (by decide) fun j hj=>?_⟩
  exact depB (Nat.le_trans (Nat.le_of_lt (wLst (by omega))) h)
theorem dep_in {a:List D} (h:wRow a≤WM):IntKind.i64.min≤depV a∧depV a≤IntKind.i64.max:=by
  have h1:IntKind.i64.min = -9223372036854775808:=by decide
  have h2:IntKind.i64.max=9223372036854775807:=by decide
  have:=depB h
  have:=depV_pos a
  rw [h1,h2]
  omega
theorem max_T {x y:Int} (h:decide (x > y)=true):x=max x y:=by have:=of_decide_eq_true h;omega
theorem max_F {x y:Int} (h:decide (x > y)=false):y=max x y:=by have:=of_decide_eq_false h;omega
theorem dep_end {a:List D} {i:Nat} (h:wRow a≤WM) (hle:i≤(lst a).length) (hi:¬ i < (lst a).length):[CV.i .i64 (IntKind.i64.wrap (maxB i (fun j=>depV (rAt (lst a) j))+1))]=[CV.i .i64 (depV a)]:=by
  have e:i=(lst a).length:=by omega
  have hb:=mxB_bnd h i hle
  rw [depV_eq, ← e]
  congr 2
  rw [IntKind.wrap_i64];omega
theorem snapIZ {f:Int→Int→Snap} {a a' b b' : Int} (h:a=a') (h2:b=b'):f a b=f a' b' := by rw [h,h2]
theorem el_no {r:List D} (h:(!elK r)=true):(elK r && okV r)=false:=by rw [of_notT h];rfl
theorem el_no2 {r:List D} (h:(!okV r)=true):(elK r && okV r)=false:=by rw [of_notT h];simp
theorem el_yes {r:List D} (h:(!elK r)=false) (h2:(!okV r)=false):(elK r && okV r)=true:=by rw [of_notF h,of_notF h2];rfl
theorem max_gt (x y:Int) (inst:Decidable (y > x)):@ite Int (y > x) inst y x=max x y:=by split <;> omega
theorem ne_T {x y:Int} (h:(x != y)=true):(x == y)=false:=by simpa [bne] using h
theorem ne_F {x y:Int} (h:(x != y)=false):(x == y)=true:=by simpa [bne] using h
theorem elK_no {r:List D} (h1:(iAt r 0 != 1)=true) (h2:(iAt r 0 != 2)=true) (h3:(iAt r 0 != 3)=true):(elK r && okV r)=false:=by
  unfold elK;rw [ne_T h1,ne_T h2,ne_T h3];rfl
theorem elK_y1 {r:List D} (h:(iAt r 0 != 1)=false):elK r=true:=by unfold elK;rw [ne_F h];rfl
theorem elK_y2 {r:List D} (h:(iAt r 0 != 2)=false):elK r=true:=by unfold elK;rw [ne_F h];simp
theorem elK_y3 {r:List D} (h:(iAt r 0 != 3)=false):elK r=true:=by unfold elK;rw [ne_F h];simp
theorem el_yes2 {r:List D} (h:elK r=true) (h2:(!okV r)=false):(elK r && okV r)=true:=by rw [h,of_notF h2];rfl
theorem lv_no {a:List D} {i:Nat} (hi:i < (lst a).length) (h:(elK (rAt (lst a) i) && okV (rAt (lst a) i))=false):false=listV a:=by
  unfold listV;rw [allB_stop (P:=fun i=>elK (rAt (lst a) i) && okV (rAt (lst a) i)) hi h];rfl
theorem lv_len {a:List D} (h:decide (((lst a).length:Int)≤8)=false):false=listV a:=by
  unfold listV;rw [h];simp
theorem lv_dep {a:List D} {i:Nat} (hI:∀ j,j < i→(elK (rAt (lst a) j) && okV (rAt (lst a) j))=true) (hi:¬ i < (lst a).length) (h:decide (((lst a).length:Int)≤8)=true):decide (depV a≤3)=listV a:=by
  unfold listV;rw [allB_end hI hi,h];rfl
section
variable {k n st:Int} {tx:ByteArray} {l4 l5 l6:List (List D)}
def preB (k st:Int) (tx:ByteArray) (l4 l5 l6:List (List D)):Bool :=
  (k == 3 || l4.length == 0) && ((k == 5 || (l5.length == 0 && l6.length == 0)) && ((k == 2 || tx.toList == []) && (k == 4 || st == 0)))
def kindB (k n st:Int) (tx:ByteArray) (l4 l5 l6:List (List D)):Bool :=
  if k=1 then inR n (-1000000000) 1000000000 else if k=2 then n == 0 && okTxt tx else if k=3 then n == 0 && listV [.i k,.i n,.i st,.s tx,.l l4,.l l5,.l l6] else
  if k=4 then inR n (-1000000000) 1000000000 && inR st (-1000000000) 1000000000 else if k=5 then n == 0 && tblOk l5 l6 else if k=6 then inR n 1 8 else false
abbrev val7 (k n st:Int) (tx:ByteArray) (l4 l5 l6:List (List D)):List D:=[.i k,.i n,.i st,.s tx,.l l4,.l l5,.l l6]
theorem w56 (h:wRow (val7 k n st tx l4 l5 l6)≤WM):l5.length+l6.length≤1099511627776:=by
  have h' : wRow (val7 k n st tx l4 l5 l6)≤1099511627776:=h
  simp only [wRow,wD] at h'
  omega
theorem okV7:okV (val7 k n st tx l4 l5 l6)=(preB k st tx l4 l5 l6 && kindB k n st tx l4 l5 l6):=okV_eq _
theorem ov1 (hk:(k == 3)=false) (h:decide ((l4.length:Int) > 0)=true):false=okV (val7 k n st tx l4 l5 l6):=by
  have:(l4.length == 0)=false:=by have:=of_decide_eq_true h;simp;intro h;subst h;simp at this
  rw [okV7,preB,hk,this];rfl
theorem ov1' (hk:(k == 3)=false) (h:((l4.length:Int) == 0)=false):false=okV (val7 k n st tx l4 l5 l6):=by
  have:(l4.length == 0)=false:=by simp at h ⊢;exact h
  rw [okV7,preB,hk,this];rfl
theorem ov2 (hk:(k == 5)=false) (b56:l5.length+l6.length≤1099511627776) (h:decide (IntKind.i64.wrap ((l5.length:Int)+(l6.length:Int)) > 0)=true):false=okV (val7 k n st tx l4 l5 l6):=by
  have:(l5.length == 0 && l6.length == 0)=false:=by
    have:=of_decide_eq_true h
    rw [IntKind.wrap_i64] at this
    rw [Bool.and_eq_false_iff,beq_eq_false_iff_ne,beq_eq_false_iff_ne]
    omega
  rw [okV7,preB,hk,this];simp
theorem ov2' (hk:(k == 5)=false) (h:((l5.length:Int) == 0)=false):false=okV (val7 k n st tx l4 l5 l6):=by
  have:(l5.length == 0)=false:=by simp at h ⊢;exact h
  rw [okV7,preB,hk,this];simp
theorem ov2'' (hk:(k == 5)=false) (h:((l6.length:Int) == 0)=false):false=okV (val7 k n st tx l4 l5 l6):=by
  have:(l6.length == 0)=false:=by simp at h ⊢;exact h
  rw [okV7,preB,hk,this];simp
theorem nil_toList:(⟨#[]⟩:ByteArray).toList=[]:=by rw [ByteArray.toList_eq]
theorem ov3' (hk:(k == 2)=false) (h:(tx.toList == (⟨#[]⟩:ByteArray).toList)=false):false=okV (val7 k n st tx l4 l5 l6):=by
  rw [nil_toList] at h
  rw [okV7,preB,hk,h];simp
theorem ov3 (hk:(k == 2)=false) (h:(!(tx.toList == (⟨#[]⟩:ByteArray).toList))=true):false=okV (val7 k n st tx l4 l5 l6):=ov3' hk (of_notT h)
theorem ov4' (hk:(k == 4)=false) (h:(st == 0)=false):false=okV (val7 k n st tx l4 l5 l6):=by
  rw [okV7,preB,hk,h];simp
theorem ov4 (hk:(k == 4)=false) (h:(st != 0)=true):false=okV (val7 k n st tx l4 l5 l6):=ov4' hk (by simpa [bne] using h)
theorem oq1 (h:decide ((l4.length:Int) > 0)=false):(l4.length == 0)=true:=by
  have:=of_decide_eq_false h
  rw [beq_iff_eq];omega
theorem oq1' (h:((l4.length:Int) == 0)=true):(l4.length == 0)=true:=by
  have:=eq_of_beq h
  rw [beq_iff_eq];omega
theorem oq2 (b56:l5.length+l6.length≤1099511627776) (h:decide (IntKind.i64.wrap ((l5.length:Int)+(l6.length:Int)) > 0)=false):(l5.length == 0 && l6.length == 0)=true:=by
  have:=of_decide_eq_false h
  rw [IntKind.wrap_i64] at this
  rw [Bool.and_eq_true,beq_iff_eq,beq_iff_eq]
  omega
theorem oq2' (h:((l5.length:Int) == 0)=true) (h' : ((l6.length:Int) == 0)=true):(l5.length == 0 && l6.length == 0)=true:=by rw [oq1' h,oq1' h'];rfl
theorem oq3' (h:(tx.toList == (⟨#[]⟩:ByteArray).toList)=true):(tx.toList == [])=true:=by rw [← nil_toList];exact h
theorem oq3 (h:(!(tx.toList == (⟨#[]⟩:ByteArray).toList))=false):(tx.toList == [])=true:=oq3' (of_notF h)
theorem oq4 (h:(st != 0)=false):(st == 0)=true:=by simpa [bne] using h
theorem pre1 (h1:(l4.length == 0)=true) (h2:(l5.length == 0 && l6.length == 0)=true) (h3:(tx.toList == [])=true) (h4:(st == 0)=true):preB 1 st tx l4 l5 l6=true:=by rw [preB,h1,h2,h3,h4];rfl
theorem pre2 (h1:(l4.length == 0)=true) (h2:(l5.length == 0 && l6.length == 0)=true) (h4:(st == 0)=true):preB 2 st tx l4 l5 l6=true:=by rw [preB,h1,h2,h4];rfl
theorem pre3 (h2:(l5.length == 0 && l6.length == 0)=true) (h3:(tx.toList == [])=true) (h4:(st == 0)=true):preB 3 st tx l4 l5 l6=true:=by rw [preB,h2,h3,h4];rfl
theorem pre4 (h1:(l4.length == 0)=true) (h2:(l5.length == 0 && l6.length == 0)=true) (h3:(tx.toList == [])=true):preB 4 st tx l4 l5 l6=true:=by rw [preB,h1,h2,h3];rfl
theorem pre5 (h1:(l4.length == 0)=true) (h3:(tx.toList == [])=true) (h4:(st == 0)=true):preB 5 st tx l4 l5 l6=true:=by rw [preB,h1,h3,h4];rfl
theorem pre6 (h1:(l4.length == 0)=true) (h2:(l5.length == 0 && l6.length == 0)=true) (h3:(tx.toList == [])=true) (h4:(st == 0)=true):preB 6 st tx l4 l5 l6=true:=by rw [preB,h1,h2,h3,h4];rfl
theorem okV_of {b:Bool} (hp:preB k st tx l4 l5 l6=true) (h:b=kindB k n st tx l4 l5 l6):b=okV (val7 k n st tx l4 l5 l6):=by rw [okV7,hp,h];rfl
theorem k2y {b:Bool} (h:(n == 0)=true) (hb:b=okTxt tx:=by rfl):b=kindB 2 n st tx l4 l5 l6:=by
  rw [hb];show _=(n == 0 && okTxt tx);rw [h];rfl
theorem k3y {b:Bool} (h:(n == 0)=true) (hb:b=listV (val7 3 n st tx l4 l5 l6)):b=kindB 3 n st tx l4 l5 l6:=by
  rw [hb];show _=(n == 0 && listV (val7 3 n st tx l4 l5 l6));rw [h];rfl
theorem lv3_no {n st:Int} {tx:ByteArray} {l4 l5 l6:List (List D)} {i:Nat} (hi:i < l4.length) (h:(elK (rAt l4 i) && okV (rAt l4 i))=false):false=okV (val7 3 n st tx l4 l5 l6):=by
  have:kindB 3 n st tx l4 l5 l6=false:=by
    show (n == 0 && listV (val7 3 n st tx l4 l5 l6))=false
    rw [← lv_no (a:=val7 3 n st tx l4 l5 l6) hi h]
    simp
  rw [okV7,this];simp
theorem k4y {b:Bool} (h:inR n (-1000000000) 1000000000=true) (hb:b=inR st (-1000000000) 1000000000:=by rfl):b=kindB 4 n st tx l4 l5 l6:=by
  rw [hb];show _=(inR n (-1000000000) 1000000000 && _);rw [h];rfl
theorem k4n (h:inR n (-1000000000) 1000000000=false):false=kindB 4 n st tx l4 l5 l6:=by
  show _=(inR n (-1000000000) 1000000000 && _);rw [h];rfl
theorem k5y {b:Bool} (h:(n == 0)=true) (hb:b=tblV (val7 5 n st tx l4 l5 l6)):b=kindB 5 n st tx l4 l5 l6:=by
  rw [hb];show _=(n == 0 && tblOk l5 l6);rw [h];rfl
theorem okV_n {k:Int} (hk:(k == 1)=false∧(k == 4)=false∧(k == 6)=false) (h:(n == 0)=false):false=okV (val7 k n st tx l4 l5 l6):=by
  have:kindB k n st tx l4 l5 l6=false:=by
    simp only [beq_eq_false_iff_ne] at hk
    unfold kindB
    rw [if_neg hk.1,if_neg hk.2.1,if_neg hk.2.2,h]
    simp
  rw [okV7,this];simp
theorem okV_other (h:¬ k=1∧¬ k=2∧¬ k=3∧¬ k=4∧¬ k=5∧¬ k=6):false=okV (val7 k n st tx l4 l5 l6):=by
  obtain ⟨h1,h2,h3,h4,h5,h6⟩:=h
  have:kindB k n st tx l4 l5 l6=false:=by unfold kindB;rw [if_neg h1,if_neg h2,if_neg h3,if_neg h4,if_neg h5,if_neg h6]
  rw [okV7,this];simp
end
end Go.Proofs.YtppgalpldaibhaaGreatDoor.Ab
