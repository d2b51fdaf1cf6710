/- The texts of values, in plain Lean, and how long they are. No program in -/
import Derived.Test.YtkpnfbdoaljkpaaGreatDoorDYs
import Derived.Test.YtkpnfbdoaljkpaaGreatDoorDFh
namespace Go.Proofs.YtkpnfbdoaljkpaaGreatDoor.Ab
open Go.RowKit
set_option linter.unusedVariables false
abbrev COMMA:ByteArray:=⟨#[44,32]⟩
abbrev LBR:ByteArray:=⟨#[91]⟩
abbrev RBR:ByteArray:=⟨#[93]⟩
abbrev RPA:ByteArray:=⟨#[41]⟩
abbrev QUO:ByteArray:=⟨#[34]⟩
abbrev RNG:ByteArray:=⟨#[114,97,110,103,101,40]⟩
abbrev TBL:ByteArray:=⟨#[116,97,98,108,101,40,34]⟩
abbrev TBM:ByteArray:=⟨#[34,44,32]⟩
abbrev ERR:ByteArray:=⟨#[101,114,114,111,114,32]⟩
def brk (xs:List ByteArray):ByteArray:=LBR++joinT xs COMMA++RBR
def numTs (rows:List (List D)):List ByteArray:=rows.map fun r=>itoaB (iAt r 0)
def rowT (r:List D):ByteArray:=brk (numTs (r.getD 0 default).rows)
def rowsT (l:List (List D)):ByteArray:=brk (l.map rowT)
def fmtStep (f:List D→ByteArray) (a:List D):ByteArray :=
  if iAt a 0=1 then itoaB (iAt a 1) else if iAt a 0=2 then QUO++(a.getD 3 default).str++QUO else
  if iAt a 0=4 then RNG++itoaB (iAt a 1)++COMMA++itoaB (iAt a 2)++RPA else
  if iAt a 0=5 then TBL++joinT (strsOf (a.getD 5 default).rows) ⟨#[32]⟩++TBM++rowsT (a.getD 6 default).rows++RPA else
  if iAt a 0=6 then ERR++errB (iAt a 1) else brk ((lst a).map f)
theorem map_at {α β:Type} (f g:α→β) (z:α):∀ (l:List α),(∀ i,i < l.length→f (l.getD i z)=g (l.getD i z))→l.map f=l.map g
  | [],_=>rfl
  | x :: r,h=>by
    rw [List.map_cons,List.map_cons,show f x=g x from h 0 (by simp)]
    congr 1
    exact map_at f g z r fun i hi=>h (i+1) (by simpa using hi)
theorem fmtStep_congr {f g:List D→ByteArray} {a:List D} (h:∀ i,i < (lst a).length→f (rAt (lst a) i)=g (rAt (lst a) i)):fmtStep f a=fmtStep g a:=by
  unfold fmtStep
  rw [map_at f g [] (lst a) h]
def fmtF:Nat→List D→ByteArray
  | 0,_=>⟨#[]⟩
  | n+1,a=>fmtStep (fmtF n) a
theorem fmtF_same:∀ {n m:Nat} {a:List D},wRow a < n→wRow a < m→fmtF n a=fmtF m a
  | 0,_,_,h,_=>absurd h (Nat.not_lt_zero _)
  | _+1,0,_,_,h=>absurd h (Nat.not_lt_zero _)
  | n+1,m+1,a,h,h' => fmtStep_congr fun i hi=>fmtF_same (n:=n) (m:=m) (by have:=wLst hi;omega) (by have:=wLst hi;omega)
def fmtV (a:List D):ByteArray:=fmtF (wRow a+1) a
theorem fmtV_eq (a:List D):fmtV a=fmtStep fmtV a:=fmtStep_congr fun i hi=>fmtF_same (wLst hi) (Nat.lt_succ_self _)
def fmtO (a:List D):ByteArray:=if okV a then fmtV a else ⟨#[]⟩
theorem app_size (a b:ByteArray):(a++b).size=a.size+b.size:=ByteArray.size_append
theorem itoaB_11 {n:Int} (h:inR n (-1000000000) 1000000000=true):(itoaB n).size≤11:=by
  unfold inR at h
  rw [Bool.and_eq_true,decide_eq_true_eq,decide_eq_true_eq] at h
  show (Lib.itoa n).toArray.size≤11
  rw [List.size_toArray]
  unfold Lib.itoa
  split
  · have:=decDigits_le 9 n.natAbs (by omega)
    rw [List.length_cons];omega
  · have:=decDigits_le 9 n.toNat (by omega)
    omega
theorem brk_size {xs:List ByteArray} {M:Nat} (h:∀ x ∈ xs,x.size≤M):(brk xs).size≤xs.length * (M+2)+2:=by
  have:=joinT_len (sep:=COMMA) h
  unfold brk
  rw [app_size,app_size]
  have e1:LBR.size=1:=rfl
  have e2:RBR.size=1:=rfl
  have e3:COMMA.size=2:=rfl
  rw [e3] at this
  omega
theorem okV_k {a:List D} (h:okV a=true):(if iAt a 0=1 then inR (iAt a 1) (-1000000000) 1000000000 else if iAt a 0=2 then iAt a 1 == 0 && okTxt (a.getD 3 default).str else
   if iAt a 0=3 then iAt a 1 == 0 && listV a else
   if iAt a 0=4 then inR (iAt a 1) (-1000000000) 1000000000 && inR (iAt a 2) (-1000000000) 1000000000 else if iAt a 0=5 then iAt a 1 == 0 && tblV a else
   if iAt a 0=6 then inR (iAt a 1) 1 8 else false)=true:=by
  rw [okV_eq] at h
  unfold okStep at h
  rw [Bool.and_eq_true] at h
  exact h.2
theorem okV_p {a:List D} (h:okV a=true):(iAt a 0=3∨(lst a).length=0)∧(iAt a 0=5∨((a.getD 5 default).rows.length=0∧(a.getD 6 default).rows.length=0))∧(iAt a 0=2∨(a.getD 3 default).str.toList=[])∧(iAt a 0=4∨iAt a 2=0):=by
  rw [okV_eq] at h
  unfold okStep at h
  rw [Bool.and_eq_true] at h
  have:=h.1
  simpa only [Bool.and_eq_true,Bool.or_eq_true,beq_iff_eq] using this
theorem okV_list {a:List D} (h:okV a=true) (h3:iAt a 0=3):listV a=true∧iAt a 1=0:=by
  have h:=okV_k h
  rw [h3,if_neg (by decide),if_neg (by decide),if_pos rfl,Bool.and_eq_true,beq_iff_eq] at h
  exact ⟨h.2,h.1⟩
theorem listV_at {a:List D} (h:listV a=true):(∀ i,i < (lst a).length→elK (rAt (lst a) i)=true∧okV (rAt (lst a) i)=true)∧(lst a).length≤8∧depV a≤3:=by
  unfold listV at h
  rw [Bool.and_eq_true,Bool.and_eq_true,allB_iff,decide_eq_true_eq,decide_eq_true_eq] at h
  refine ⟨fun i hi=>?_,by omega,h.2.2⟩
  have:=h.1 i hi
  rwa [Bool.and_eq_true] at this
theorem okV_kind {a:List D} (h:okV a=true):iAt a 0=1∨iAt a 0=2∨iAt a 0=3∨iAt a 0=4∨iAt a 0=5∨iAt a 0=6:=by
  rw [okV_eq] at h
  unfold okStep at h
  rw [Bool.and_eq_true] at h
  refine Classical.byContradiction fun hn=>?_
  rw [if_neg (by omega),if_neg (by omega),if_neg (by omega),if_neg (by omega),if_neg (by omega),if_neg (by omega)] at h
  exact Bool.noConfusion h.2
theorem okV_num {a:List D} (h:okV a=true) (hk:iAt a 0=1):inR (iAt a 1) (-1000000000) 1000000000=true:=by
  have h:=okV_k h
  rw [if_pos hk] at h
  exact h
theorem okV_txt {a:List D} (h:okV a=true) (hk:iAt a 0=2):okTxt (a.getD 3 default).str=true∧iAt a 1=0:=by
  have h:=okV_k h
  rw [if_neg (by omega),if_pos hk,Bool.and_eq_true,beq_iff_eq] at h
  exact ⟨h.2,h.1⟩
theorem okV_str {a:List D} (h:okV a=true) (hk:iAt a 0=4):inR (iAt a 1) (-1000000000) 1000000000=true∧inR (iAt a 2) (-1000000000) 1000000000=true:=by
  have h:=okV_k h
  rw [if_neg (by omega),if_neg (by omega),if_neg (by omega),if_pos hk,Bool.and_eq_true] at h
  exact h
theorem okV_tbl {a:List D} (h:okV a=true) (hk:iAt a 0=5):tblV a=true∧iAt a 1=0:=by
  have h:=okV_k h
  rw [if_neg (by omega),if_neg (by omega),if_neg (by omega),if_neg (by omega),if_pos hk,Bool.and_eq_true,beq_iff_eq] at h
  exact ⟨h.2,h.1⟩
theorem okV_err {a:List D} (h:okV a=true) (hk:iAt a 0=6):1≤iAt a 1∧iAt a 1≤8:=by
  have h:=okV_k h
  rw [if_neg (by omega),if_neg (by omega),if_neg (by omega),if_neg (by omega),if_neg (by omega),if_pos hk] at h
  unfold inR at h
  rw [Bool.and_eq_true,decide_eq_true_eq,decide_eq_true_eq] at h
  exact h
theorem tblV_at {a:List D} (h:tblV a=true):colsOk (a.getD 5 default).rows=true∧(a.getD 6 default).rows.length≤12∧∀ i,i < (a.getD 6 default).rows.length→rowOk (a.getD 5 default).rows.length (rAt (a.getD 6 default).rows i)=true:=by
  unfold tblV tblOk rowsOk at h
  rw [Bool.and_eq_true,Bool.and_eq_true,decide_eq_true_eq,allB_iff] at h
  exact ⟨h.1,by omega,h.2.2⟩
theorem cols_at {c:List (List D)} (h:colsOk c=true):1≤c.length∧c.length≤4∧(∀ i,i < c.length→nameOk (tAt c i)=true)∧distT c=true:=by
  unfold colsOk inR at h
  rw [Bool.and_eq_true,Bool.and_eq_true,Bool.and_eq_true,allB_iff,decide_eq_true_eq,decide_eq_true_eq] at h
  exact ⟨by omega,by omega,h.1,h.2.2⟩
theorem name_size {s:ByteArray} (h:nameOk s=true):s.size≤8:=by
  unfold nameOk at h
  rw [Bool.and_eq_true,Bool.and_eq_true,decide_eq_true_eq] at h
  omega
theorem row_at_ {n:Nat} {r:List D} (h:rowOk n r=true):(r.getD 0 default).rows.length=n∧ascOk (r.getD 1 default).rows=true∧∀ k,k < (r.getD 0 default).rows.length→inR (iAt (rAt (r.getD 0 default).rows k) 0) (-1000000000) 1000000000=true:=by
  unfold rowOk numsOk at h
  rw [Bool.and_eq_true,Bool.and_eq_true,allB_iff,beq_iff_eq] at h
  exact ⟨by omega,h.1.2,h.2⟩
theorem mem_at {α:Type} (z:α) {l:List α} {x:α} (h:x ∈ l):∃ i,i < l.length∧x=l.getD i z:=by
  obtain ⟨i,hi,rfl⟩:=List.mem_iff_getElem.1 h
  exact ⟨i,hi,by simp [List.getD_eq_getElem?_getD,List.getElem?_eq_getElem hi]⟩
theorem numTs_size {l:List (List D)} (h:∀ k,k < l.length→inR (iAt (rAt l k) 0) (-1000000000) 1000000000=true):∀ x ∈ numTs l,x.size≤11:=by
  intro x hx
  obtain ⟨r,hr,rfl⟩:=List.mem_map.1 hx
  obtain ⟨i,hi,rfl⟩:=mem_at [] hr
  exact itoaB_11 (h i hi)
theorem rowT_size {n:Nat} {r:List D} (hn:n≤4) (h:rowOk n r=true):(rowT r).size≤54:=by
  obtain ⟨h1,_,h3⟩:=row_at_ h
  have:=brk_size (numTs_size h3)
  have hl:(numTs (r.getD 0 default).rows).length=(r.getD 0 default).rows.length:=List.length_map _
  unfold rowT
  rw [hl] at this
  omega
theorem rowsT_size {c l:List (List D)} (hc:c.length≤4) (hl:l.length≤12) (h:∀ i,i < l.length→rowOk c.length (rAt l i)=true):(rowsT l).size≤674:=by
  have:=brk_size (xs:=l.map rowT) (M:=54) (by
    intro x hx
    obtain ⟨r,hr,rfl⟩:=List.mem_map.1 hx
    obtain ⟨i,hi,rfl⟩:=mem_at [] hr
    exact rowT_size hc (h i hi))
  rw [List.length_map] at this
  unfold rowsT
  omega
theorem strsOf_le {c:List (List D)} {M:Nat} (h:∀ i,i < c.length→(tAt c i).size≤M):∀ x ∈ strsOf c,x.size≤M:=by
  intro x hx
  obtain ⟨r,hr,rfl⟩:=List.mem_map.1 hx
  obtain ⟨i,hi,rfl⟩:=mem_at [] hr
  exact h i hi
theorem colsT_size {c:List (List D)} (h:colsOk c=true):(joinT (strsOf c) ⟨#[32]⟩).size≤36:=by
  obtain ⟨_,h2,h3,_⟩:=cols_at h
  have:=joinT_len (sep:=(⟨#[32]⟩:ByteArray)) (strsOf_le (M:=8) fun i hi=>name_size (h3 i hi))
  have hl:(strsOf c).length=c.length:=List.length_map _
  have e:(⟨#[32]⟩:ByteArray).size=1:=rfl
  rw [hl,e] at this
  omega
theorem okTxt_size {s:ByteArray} (h:okTxt s=true):s.size≤20:=by
  unfold okTxt at h
  rw [Bool.and_eq_true,decide_eq_true_eq] at h
  omega
def elB:Nat→Nat
  | 0=>22
  | n+1=>8 * (elB n+2)+2
theorem elB_mono (n:Nat):elB n≤elB (n+1):=by show elB n≤8 * (elB n+2)+2;omega
theorem el_size:∀ (n:Nat) {a:List D},okV a=true→elK a=true→depV a≤n+1→(fmtV a).size≤elB n:=by
  intro n
  induction n with
  | zero =>
    intro a h hk hd
    have hno:(lst a).length=0:=by
      refine Classical.byContradiction fun hne=>?_
      have hp:0 < (lst a).length:=by omega
      have h1:=depV_pos (rAt (lst a) 0)
      have h2:=le_maxB (F:=fun i=>depV (rAt (lst a) i)) hp
      rw [depV_eq] at hd
      omega
    rw [fmtV_eq]
    unfold elK at hk
    rw [Bool.or_eq_true,Bool.or_eq_true,beq_iff_eq,beq_iff_eq,beq_iff_eq] at hk
    unfold fmtStep
    rcases hk with hk|hk|hk
    · rw [if_pos hk];exact Nat.le_trans (itoaB_11 (okV_num h hk)) (by decide)
    · rw [if_neg (by omega),if_pos hk,app_size,app_size]
      have:=okTxt_size (okV_txt h hk).1
      show 1+_+1≤22
      omega
    · rw [if_neg (by omega),if_neg (by omega),if_neg (by omega),if_neg (by omega),if_neg (by omega)]
      have:(lst a).map fmtV=[]:=by rw [List.map_eq_nil_iff];exact List.length_eq_zero_iff.1 hno
      rw [this]
      decide
  | succ n ih =>
    intro a h hk hd
    rw [fmtV_eq]
    unfold elK at hk
    rw [Bool.or_eq_true,Bool.or_eq_true,beq_iff_eq,beq_iff_eq,beq_iff_eq] at hk
    have hb:22≤elB (n+1):=by
      have:∀ m,22≤elB m:=by
        intro m
        induction m with
        | zero=>exact Nat.le_refl _
        | succ m ih=>exact Nat.le_trans ih (elB_mono m)
      exact this _
    unfold fmtStep
    rcases hk with hk|hk|hk
    · rw [if_pos hk];exact Nat.le_trans (itoaB_11 (okV_num h hk)) (by omega)
    · rw [if_neg (by omega),if_pos hk,app_size,app_size]
      have:=okTxt_size (okV_txt h hk).1
      have e:QUO.size=1:=rfl
      omega
    · rw [if_neg (by omega),if_neg (by omega),if_neg (by omega),if_neg (by omega),if_neg (by omega)]
      obtain ⟨h1,h2,_⟩:=listV_at (okV_list h hk).1
      have:=brk_size (xs:=(lst a).map fmtV) (M:=elB n) (by
        intro x hx
        obtain ⟨r,hr,rfl⟩:=List.mem_map.1 hx
        obtain ⟨i,hi,rfl⟩:=mem_at [] hr
        refine ih (h1 i hi).2 (h1 i hi).1 ?_
        have h3:=le_maxB (F:=fun i=>depV (rAt (lst a) i)) hi
        rw [depV_eq] at hd
        have:depV (rAt (lst a) i)≤(n:Int)+1:=by omega
        exact this)
      rw [List.length_map] at this
      have h4:(lst a).length * (elB n+2)≤8 * (elB n+2):=Nat.mul_le_mul_right _ h2
      show _≤8 * (elB n+2)+2
      omega
theorem fmtV_size {a:List D} (h:okV a=true):(fmtV a).size≤2000:=by
  rcases okV_kind h with hk|hk|hk|hk|hk|hk
  · exact Nat.le_trans (el_size 2 h (by unfold elK;rw [hk];rfl) (by
      have hz:(lst a).length=0:=by have:=(okV_p h).1;omega
      rw [depV_eq,hz,maxB_zero]
      decide)) (by decide)
  · rw [fmtV_eq]
    unfold fmtStep
    rw [if_neg (by omega),if_pos hk,app_size,app_size]
    have:=okTxt_size (okV_txt h hk).1
    have e:QUO.size=1:=rfl
    omega
  · exact Nat.le_trans (el_size 2 h (by unfold elK;rw [hk];rfl) (listV_at (okV_list h hk).1).2.2) (by decide)
  · rw [fmtV_eq]
    unfold fmtStep
    rw [if_neg (by omega),if_neg (by omega),if_pos hk]
    simp only [app_size]
    have h1:=itoaB_11 (okV_str h hk).1
    have h2:=itoaB_11 (okV_str h hk).2
    have e1:RNG.size=6:=rfl
    have e2:COMMA.size=2:=rfl
    have e3:RPA.size=1:=rfl
    omega
  · rw [fmtV_eq]
    unfold fmtStep
    rw [if_neg (by omega),if_neg (by omega),if_neg (by omega),if_pos hk]
    simp only [app_size]
    obtain ⟨h1,h2,h3⟩:=tblV_at (okV_tbl h hk).1
    have h4:=colsT_size h1
    have h5:=rowsT_size (cols_at h1).2.1 h2 h3
    have e1:TBL.size=7:=rfl
    have e2:TBM.size=3:=rfl
    have e3:RPA.size=1:=rfl
    omega
  · rw [fmtV_eq]
    unfold fmtStep
    rw [if_neg (by omega),if_neg (by omega),if_neg (by omega),if_neg (by omega),if_pos hk,app_size]
    have:=errB_size (iAt a 1)
    have e:ERR.size=6:=rfl
    omega
theorem fmtO_size (a:List D):(fmtO a).size≤2000:=by
  unfold fmtO
  split
  · rename_i h;exact fmtV_size h
  · decide
variable {T:Tab}
def spST (e:TypeId) (Sm:List (List D)→Prop) (p:List (List D)→ByteArray):FSpec where
  pre args:=∃ a:List (List D),Sm a∧args=[argS e a]
  res args:=match args with
    | [.val _ [.sl _ _ a]]=>.val false [.s (p a)]
    | _=>.none
def spGT (T:Tab) (cts:List CT) (Sm:List D→Prop) (p:List D→ByteArray):FSpec where
  pre args:=∃ a:List D,WfRow T cts a∧Sm a∧args=[argG cts a]
  res args:=match args with
    | [.val _ cs]=>.val false [.s (p (csD cs))]
    | _=>.none
def SmRows (l:List (List D)):Prop:=∃ n,n≤4∧l.length≤12∧∀ i,i < l.length→rowOk n (rAt l i)=true
def SmBrk (l:List (List D)):Prop:=l.length≤1099511627776∧(brk (strsOf l)).size≤1099511627776
theorem joinT_brk (xs:List ByteArray):(brk xs).size=(joinT xs COMMA).size+2:=by
  unfold brk
  rw [app_size,app_size]
  show 1+_+1=_
  omega
theorem rows_next {α:Type} (f:List D→α) {l:List (List D)} {k:Nat} (hk:k < l.length):(l.take k).map f++[f (rAt l k)]=(l.take (k+1)).map f:=by
  have:l[k]? = some (rAt l k):=by simp [rAt,List.getD_eq_getElem?_getD,List.getElem?_eq_getElem hk]
  rw [List.take_add_one,this,List.map_append]
  rfl
theorem appN {f:List D→ByteArray} {l:List (List D)} {k:Nat} {x:ByteArray} (hk:k < l.length) (hx:x=f (rAt l k)):strRows ((l.take k).map f)++([]++[[D.s x]])=strRows ((l.take (k+1)).map f):=by
  rw [strRows_app,hx,rows_next f hk]
theorem strRows_len (xs:List ByteArray):(strRows xs).length=xs.length:=List.length_map _
theorem snapRZ {f:List (List D)→Int→Snap} {r r' : List (List D)} {a a' : Int} (h:r=r') (h2:a=a'):f r a=f r' a' := by rw [h,h2]
theorem join_rows (xs:List ByteArray):LBR++joinT (strsOf (strRows xs)) ⟨#[44,32]⟩++RBR=brk xs:=by rw [strsOf_rows];rfl
abbrev numT1 (r:List D):ByteArray:=itoaB (iAt r 0)
theorem numT_brk {n k:Nat} {l:List (List D)} (hn:l.length≤4) (h:∀ k,k < l.length→inR (iAt (rAt l k) 0) (-1000000000) 1000000000=true):(brk ((l.take k).map numT1)).size≤54:=by
  have:=brk_size (xs:=(l.take k).map numT1) (M:=11) (by
    intro x hx
    obtain ⟨r,hr,rfl⟩:=List.mem_map.1 hx
    obtain ⟨i,hi,rfl⟩:=mem_at [] (List.mem_of_mem_take hr)
    exact itoaB_11 (h i hi))
  rw [List.length_map,List.length_take] at this
  omega
theorem rowT_brk {n k:Nat} {l:List (List D)} (hn:n≤4) (hl:l.length≤12) (h:∀ i,i < l.length→rowOk n (rAt l i)=true):(brk ((l.take k).map rowT)).size≤674:=by
  have:=brk_size (xs:=(l.take k).map rowT) (M:=54) (by
    intro x hx
    obtain ⟨r,hr,rfl⟩:=List.mem_map.1 hx
    obtain ⟨i,hi,rfl⟩:=mem_at [] (List.mem_of_mem_take hr)
    exact rowT_size hn (h i hi))
  rw [List.length_map,List.length_take] at this
  omega
theorem el_brk {a:List D} {k:Nat} (h:okV a=true) (h3:iAt a 0=3):(brk (((lst a).take k).map fmtV)).size≤16018:=by
  obtain ⟨h1,h2,_⟩:=listV_at (okV_list h h3).1
  have:=brk_size (xs:=((lst a).take k).map fmtV) (M:=2000) (by
    intro x hx
    obtain ⟨r,hr,rfl⟩:=List.mem_map.1 hx
    obtain ⟨i,hi,rfl⟩:=mem_at [] (List.mem_of_mem_take hr)
    exact fmtV_size (h1 i hi).2)
  rw [List.length_map,List.length_take] at this
  omega
theorem elO_brk {l:List (List D)} {k:Nat} (h:l.length≤8):(brk ((l.take k).map fmtO)).size≤16018:=by
  have:=brk_size (xs:=(l.take k).map fmtO) (M:=2000) (by
    intro x hx
    obtain ⟨r,hr,rfl⟩:=List.mem_map.1 hx
    exact fmtO_size r)
  rw [List.length_map,List.length_take] at this
  omega
theorem take_end {l:List (List D)} {k:Nat} (h:¬ k < l.length):l.take k=l:=List.take_of_length_le (by omega)
theorem join_pre {xs:List ByteArray} {sep:ByteArray} (hl:xs.length≤1099511627776) (hj:(joinT xs sep).size≤1099511627776):spJoin.pre [argS 9 (strRows xs),.val false [.s sep]] :=
  ⟨_,_,by rw [strRows_len];omega,by rw [strsOf_rows];omega,rfl⟩
theorem join_pre' {f:List D→ByteArray} {l:List (List D)} {i:Nat} (hl:l.length≤100) (hb:(brk ((l.take i).map f)).size≤100000):spJoin.pre [argS 9 (strRows ((l.take i).map f)),.val false [.s ⟨#[44,32]⟩]]:=by
  have hj:=joinT_brk ((l.take i).map f)
  refine join_pre ?_ ?_
  · rw [List.length_map,List.length_take];omega
  · show (joinT ((l.take i).map f) COMMA).size≤_
    omega
section
variable {n st:Int} {tx:ByteArray} {l4 l5 l6:List (List D)}
theorem fm1:itoaB n=fmtV (val7 1 n st tx l4 l5 l6):=by rw [fmtV_eq];rfl
theorem fm2:QUO++tx++QUO=fmtV (val7 2 n st tx l4 l5 l6):=by rw [fmtV_eq];rfl
theorem fm3:brk (l4.map fmtV)=fmtV (val7 3 n st tx l4 l5 l6):=by rw [fmtV_eq];rfl
theorem fm4:RNG++itoaB n++COMMA++itoaB st++RPA=fmtV (val7 4 n st tx l4 l5 l6):=by rw [fmtV_eq];rfl
theorem fm5:TBL++joinT (strsOf l5) ⟨#[32]⟩++TBM++rowsT l6++RPA=fmtV (val7 5 n st tx l4 l5 l6):=by rw [fmtV_eq];rfl
theorem fm6:ERR++errB n=fmtV (val7 6 n st tx l4 l5 l6):=by rw [fmtV_eq];rfl
end
theorem fmtO_yes {a:List D} (h:okV a=true):fmtO a=fmtV a:=by unfold fmtO;rw [h];rfl
theorem fmtO_no {a:List D} (h:okV a=false):fmtO a=⟨#[]⟩:=by unfold fmtO;rw [h];rfl
end Go.Proofs.YtkpnfbdoaljkpaaGreatDoor.Ab
