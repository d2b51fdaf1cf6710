/- Operations, in plain Lean: when they are valid; their numbers; their -/
import Derived.Test.YtkpnfbdoaljkpaaGreatDoorCQa
import Derived.Lib.HexFns2
import Derived.Lib.SplitLaws
namespace Go.Proofs.YtkpnfbdoaljkpaaGreatDoor.Ab
open Go.RowKit
set_option linter.all false
def intOf (r:List D):Int:=(r.getD 0 default).int
def jh (rows:List (List D)):Bool:=rows.all (fun r=>inR (intOf r) 0 60) && decide (rows.length=3)
def jx (a:List D):Bool:=(a.getD 4 default).int == 0 && ((a.getD 5 default).int == 0 && ((a.getD 6 default).int == 0 && ((a.getD 7 default).int == 0 && ((a.getD 8 default).int == 0 && ((a.getD 9 default).str.toList == (⟨#[]⟩:ByteArray).toList && ((a.getD 10 default).str.toList == (⟨#[]⟩:ByteArray).toList && (a.getD 11 default).int == 0))))))
def fI (a:List D):Bool:=(a.getD 12 default).str.toList == (⟨#[]⟩:ByteArray).toList && (a.getD 13 default).str.toList == (⟨#[]⟩:ByteArray).toList
def jw (a:List D):Bool:=(a.getD 14 default).int == 0 && ((a.getD 15 default).int == 0 && ((a.getD 16 default).rows.length:Int) == 0)
def okOp (a:List D):Bool:=inR (a.getD 0 default).int 1 300 && (inR (a.getD 1 default).int 0 2 && (jh (a.getD 3 default).rows && (inR (a.getD 2 default).int 1 3 &&
 (if (a.getD 2 default).int=1 then fI a && jw a else if (a.getD 2 default).int=2 then jx a && jw a else jx a && fI a))))
def uQ:FSpec where
 pre args:=∃ rows:List (List D),args=[argS 3 rows]
 res args:=match args with
  | [.val _ [.sl _ _ rows]]=>.val false [.b (jh rows)]
  | _=>.none
def spOp (T:Tab) (cts:List CT):FSpec where
 pre args:=∃ a:List D,WfRow T cts a∧args=[argG cts a]
 res args:=match args with
  | [.val _ cs]=>.val false [.b (okOp (csD cs))]
  | _=>.none
theorem gF {p:List D→Bool} {rows:List (List D)} {i:Int} (h0:0≤i) (hi:i < rows.length) (h:(rows.take i.toNat).all p=true) (hp:p (rows.getD i.toNat [])=true):(rows.take (i+1).toNat).all p=true:=by
 have e:(i+1).toNat=i.toNat+1:=by omega
 rw [e,jbS,fj h0 hi,jcV,h]
 simpa using hp
theorem gD {p:List D→Bool} {rows:List (List D)} {i:Int} (h0:0≤i) (hi:i < rows.length) (hp:p (rows.getD i.toNat [])=false):rows.all p=false:=by
 rw [List.all_eq_false]
 refine ⟨rows.getD i.toNat [],?_,by rw [hp];simp⟩
 exact jbd (fj h0 hi)
theorem oi {p:List D→Bool} {rows:List (List D)} {i:Int} (h0:0≤i) (hi:i≤rows.length) (hn:decide (i < (rows.length:Int))=false) (h:(rows.take i.toNat).all p=true):rows.all p=true:=by
 have hn' : ¬ i < (rows.length:Int):=by simpa using hn
 have:i.toNat=rows.length:=by omega
 rwa [this,jbM] at h
theorem okOp_rowC {cts:List CT} {a:List D} (wa:WfRow T cts a):okOp (csD (rowC cts a))=okOp a:=by rw [aC wa]
def bX (r:List D):Bool:=inR (intOf r) (-1000000000) 1000000000
abbrev numI (x:Int):List D:=[.i x]
abbrev numW (x:Int):List D:=[.s (aM x)]
abbrev encW (x:ByteArray):List D:=[.s (encB x)]
abbrev ints (a:List D) (js:List Nat):List (List D):=js.map fun j=>numI (a.getD j default).int
def bv (a:List D):List (List D):=ints a [0,1,2]++(a.getD 3 default).rows++ints a [4,5,6,7,8,11]
def dW (r:List D):List (List D):=ints r [0,1,2]
abbrev rds (a:List D):List (List D):=(a.getD 16 default).rows
def aB (a:List D) (i:Nat):List (List D):=bv a++ints a [14,15]++((rds a).take i).flatMap dW
def bM (r:List D):Bool:=((r.getD 4 default).int == 1 || (r.getD 4 default).int == 6) && okVal (sub r 4 7)
def bi (a:List D):Bool:=(rds a).all bM && ((aB a (rds a).length).all bX && okOp a)
def rowW (r:List D):List D:=numW (intOf r)
def bd (r:List D):List (List D):=[numW (r.getD 0 default).int,numW (r.getD 1 default).int,numW (r.getD 2 default).int,encW (r.getD 3 default).str,encW (bF (sub r 4 7))]
def dl (a:List D):List (List D):=(bv a).map rowW++[encW (a.getD 9 default).str,encW (a.getD 10 default).str,encW (a.getD 12 default).str,encW (a.getD 13 default).str]
def dk (a:List D):List (List D):=dl a++[numW (a.getD 14 default).int,numW (a.getD 15 default).int,numW ((rds a).length:Int)]
def aI (a:List D) (i:Nat):List (List D):=dk a++((rds a).take i).flatMap bd
def ba (a:List D):ByteArray:=if bi a then bJ (strsOf (aI a (rds a).length)) ⟨#[32]⟩ else ⟨#[]⟩
def SmO (a:List D):Prop:=(a.getD 3 default).rows.length≤1048576∧(rds a).length≤1048576∧((a.getD 9 default).str.size≤1048576∧(a.getD 10 default).str.size≤1048576∧(a.getD 12 default).str.size≤1048576∧(a.getD 13 default).str.size≤1048576) ∧
 ∀ i,i < (rds a).length→(((rds a).getD i []).getD 3 default).str.size≤1048576∧(((rds a).getD i []).getD 9 default).rows.length+(((rds a).getD i []).getD 10 default).rows.length≤2097152
theorem bS (a:List D):(bv a).length=(a.getD 3 default).rows.length+9:=by simp [bv,ints]
theorem gw (f:List D→List (List D)) (k:Nat) (h:∀ r,(f r).length=k) (l:List (List D)):(l.flatMap f).length=k * l.length:=by
 induction l with
 | nil=>rfl
 | cons r l ih=>rw [jcN,jaV,ih,h,ja8,Nat.mul_add,jcB,Nat.add_comm]
theorem jv {a:List D} {i:Nat} (hi:i≤(rds a).length):(aB a i).length=(a.getD 3 default).rows.length+11+3 * i:=by
 simp only [aB,jaV,bS,gw dW 3 (fun _=>rfl),jbc,ints,ja5,ja8,jbh,jb8 hi]
theorem aO (a:List D):(dl a).length=(a.getD 3 default).rows.length+13:=by simp [dl,bS]
theorem c6 (a:List D):(dk a).length=(a.getD 3 default).rows.length+16:=by simp [dk,aO]
theorem bm {a:List D} {i:Nat} (hi:i≤(rds a).length):(aI a i).length=(a.getD 3 default).rows.length+16+5 * i:=by
 simp only [aI,jaV,c6,gw bd 5 (fun _=>rfl),jbc,jb8 hi]
theorem mH {f:List D→List (List D)} {rows:List (List D)} {i:Int} (h0:0≤i) (hi:i < rows.length):(rows.take (i+1).toNat).flatMap f=(rows.take i.toNat).flatMap f++f (rows.getD i.toNat []):=by
 have e:(i+1).toNat=i.toNat+1:=by omega
 rw [e,jbS,fj h0 hi,List.flatMap_append]
 simp
theorem lf {f:List D→List D} {rows:List (List D)} {i:Int} (h0:0≤i) (hi:i < rows.length):(rows.take (i+1).toNat).map f=(rows.take i.toNat).map f++[f (rows.getD i.toNat [])]:=by
 have e:(i+1).toNat=i.toNat+1:=by omega
 rw [e,jbS,fj h0 hi,jca]
 simp
theorem gg {a:List D} {i:Int} (h0:0≤i) (hi:i < (rds a).length):aB a i.toNat++dW ((rds a).getD i.toNat [])=aB a (i+1).toNat:=by
 rw [aB,aB,mH h0 hi,jbz]
theorem fk {a:List D} {i:Int} (h0:0≤i) (hi:i < (rds a).length):aI a i.toNat++bd ((rds a).getD i.toNat [])=aI a (i+1).toNat:=by
 rw [aI,aI,mH h0 hi,jbz]
theorem bo:∀ (k u:Nat),u < 10 ^ (k+1)→(Lib.decDigits u).length≤k+1
 | 0,u,h=>by
   rw [Lib.decDigits,dif_pos (by simpa using h)]
   simp
 | k+1,u,h=>by
   rw [Lib.decDigits]
   split
   · simp
   · have:=bo k (u / 10) (by rw [Nat.div_lt_iff_lt_mul (by decide)];rw [Nat.pow_succ] at h;exact h)
     rw [jaV,jb5]
     omega
theorem dc {n:Int} (h:inR n (-1000000000) 1000000000=true):(aM n).size≤11:=by
 simp only [inR,ja6,decide_eq_true_eq] at h
 show (Lib.itoa n).toArray.size≤_
 rw [jbr]
 unfold Lib.itoa
 split
 · have:=bo 9 n.natAbs (by simp only [Nat.reduceAdd,Nat.reducePow];omega)
   rw [ja8]
   omega
 · have:=bo 9 n.toNat (by simp only [Nat.reduceAdd,Nat.reducePow];omega)
   omega
theorem ip (sep:List UInt8) (M:Nat):∀ (xs:List (List UInt8)),(∀ x ∈ xs,x.length≤M)→(Lib.joinTail sep xs).length≤xs.length * (M+sep.length)
 | [],_=>jaU _
 | x :: xs,h=>by
   have ih:=ip sep M xs (fun y hy=>h y (jbC _ hy))
   have hx:=h x (jbo ..)
   have:Lib.joinTail sep (x :: xs)=sep++x++Lib.joinTail sep xs:=by simp [Lib.joinTail]
   rw [this,jaV,jaV,ja8,jcx,Nat.one_mul]
   omega
theorem cp {xs:List ByteArray} {sep:ByteArray} {M:Nat} (h:∀ x ∈ xs,x.size≤M):(bJ xs sep).size≤xs.length * (M+sep.size):=by
 show (Lib.join (xs.map (·.data.toList)) sep.data.toList).toArray.size≤_
 rw [jbr]
 have hs:sep.data.toList.length=sep.size:=by rw [jba];rfl
 cases xs with
 | nil=>exact jaU _
 | cons x xs =>
   have hx:x.data.toList.length≤M:=by rw [jba];exact h x (jbo ..)
   have:=ip sep.data.toList M (xs.map (·.data.toList)) (fun y hy=>by
    obtain ⟨z,hz,rfl⟩:=jbB.1 hy
    rw [jba];exact h z (jbC _ hz))
   rw [hs,ja5] at this
   have hj:Lib.join ((x :: xs).map (·.data.toList)) sep.data.toList=x.data.toList++Lib.joinTail sep.data.toList (xs.map (·.data.toList)):=Lib.join_cons _ _ _
   rw [hj,jaV,ja8,jcx,Nat.one_mul]
   omega
def uH (M:Nat) (r:List D):Prop:=(r.getD 0 default).str.size≤M
theorem dO {a:List D} (h:okVal a=true) (hk:(a.getD 0 default).int=1∨(a.getD 0 default).int=6):(bF a).size≤15:=by
 rcases hk with h1|h6
 · rw [lu h1]
   simp only [okVal,h1,if_true,ja6] at h
   have hn:inR (a.getD 1 default).int (-1000000000) 1000000000=true:=by simp_all
   have:=dc hn
   omega
 · rw [lv h6,jbe]
   have:=eA (a.getD 1 default).int
   show 6+_≤_
   omega
theorem ci {r:List D} (h:bM r=true):((sub r 4 7).getD 0 default).int=1∨((sub r 4 7).getD 0 default).int=6:=by
 simp only [bM,ja6,jcl,beq_iff_eq] at h
 exact h.1
theorem cP {r:List D} (h:bM r=true):okVal (sub r 4 7)=true:=by
 simp only [bM,ja6] at h
 exact h.2
theorem fH {a:List D} (hs:SmO a) (hg:bi a=true):(bJ (strsOf (aI a (rds a).length)) ⟨#[32]⟩).size≤140737488355328:=by
 have hl:(strsOf (aI a (rds a).length)).length=(a.getD 3 default).rows.length+16+5 * (rds a).length:=by rw [strsOf,ja5,bm (ja9 _)]
 simp only [bi,ja6] at hg
 have hw:∀ r ∈ aI a (rds a).length,uH 2097153 r:=by
  have nums:∀ r ∈ aB a (rds a).length,(aM (intOf r)).size≤2097153:=fun r hr=>ja0 (dc (jbg.1 hg.2.1 r hr)) (by decide)
  have enc:∀ s:ByteArray,s.size≤1048576→(encB s).size≤2097153:=fun s h=>by have:=mN s;omega
  have n14:(aM (a.getD 14 default).int).size≤2097153:=nums (numI (a.getD 14 default).int) (by simp [aB,ints])
  have n15:(aM (a.getD 15 default).int).size≤2097153:=nums (numI (a.getD 15 default).int) (by simp [aB,ints])
  have nl:(aM ((rds a).length:Int)).size≤2097153:=ja0 (dc (by have:=hs.2.1;simp only [inR,ja6,decide_eq_true_eq];omega)) (by decide)
  intro r hr
  unfold aI dk dl at hr
  rcases jbt.1 hr with hr|hr
  · rcases jbt.1 hr with hr|hr
    · rcases jbt.1 hr with hr|hr
      · obtain ⟨x,hx,rfl⟩:=jbB.1 hr
        exact nums x (by unfold aB;exact jcA _ (jcA _ hx))
      · simp only [ja1,jaX,or_false] at hr
        rcases hr with rfl|rfl|rfl|rfl
        · exact enc _ hs.2.2.1.1
        · exact enc _ hs.2.2.1.2.1
        · exact enc _ hs.2.2.1.2.2.1
        · exact enc _ hs.2.2.1.2.2.2
    · simp only [ja1,jaX,or_false] at hr
      rcases hr with rfl|rfl|rfl
      · exact n14
      · exact n15
      · exact nl
  · rw [jbM] at hr
    obtain ⟨x,hx,hr⟩:=jct.1 hr
    have hgx:=jbg.1 hg.1 x hx
    obtain ⟨i,hi,he⟩:=jcz.1 hx
    have hb:=hs.2.2.2 i hi
    rw [show (rds a).getD i []=x by rw [jaY,jaS hi,he];rfl] at hb
    have hin:∀ j,j=0∨j=1∨j=2→(aM (x.getD j default).int).size≤2097153:=fun j hj=>nums (numI (x.getD j default).int) (by
     unfold aB
     refine List.mem_append_right _ ?_
     rw [jbM]
     refine jct.2 ⟨x,hx,?_⟩
     rcases hj with rfl|rfl|rfl <;> simp [dW,ints])
    simp only [bd,ja1,jaX,or_false] at hr
    rcases hr with rfl|rfl|rfl|rfl|rfl
    · exact hin 0 (.inl rfl)
    · exact hin 1 (.inr (.inl rfl))
    · exact hin 2 (.inr (.inr rfl))
    · exact enc _ hb.1
    · exact enc _ (ja0 (dO (cP hgx) (ci hgx)) (by decide))
 have:=cp (xs:=strsOf (aI a (rds a).length)) (sep:=⟨#[32]⟩) (M:=2097153) (fun x hx=>by
  obtain ⟨r,hr,rfl⟩:=jbB.1 hx
  exact hw r hr)
 have h1:=hs.1
 have h2:=hs.2.1
 rw [hl] at this
 refine ja0 this (ja0 (Nat.mul_le_mul (show _≤1048576+16+5 * 1048576 by omega) (ja9 _)) (by decide))
theorem iI {p:List D→Bool} {xs ys:List (List D)}:(!(xs.all p) || !(ys.all p))=!((xs++ys).all p):=by rw [jcV,Bool.not_and]
def gT (a:List D) (i:Nat):Bool:=!((aB a i).all bX)
theorem pP {a:List D} (h:(rds a).length≤1048576):(!((bv a).all bX) || !(([numI (a.getD 14 default).int,numI (a.getD 15 default).int,numI ((rds a).length:Int)]:List (List D)).all bX))=gT a 0:=by
 have hn:bX (numI ((rds a).length:Int))=true:=by
  show inR ((rds a).length:Int) (-1000000000) 1000000000=true
  simp only [inR,ja6,decide_eq_true_eq]
  omega
 rw [iI,gT,aB,List.take_zero,List.flatMap_nil,jch,jcV,jcV]
 simp only [jcF,List.all_nil,hn,ints,jb0,List.map_nil,jbD]
theorem pQ {a:List D} {i:Int} (h0:0≤i) (hi:i < (rds a).length):(gT a i.toNat || !((dW ((rds a).getD i.toNat [])).all bX))=gT a (i+1).toNat:=by
 rw [gT,iI,gg h0 hi]
 rfl
theorem nF (a:List D):dl a=(ints a [0,1,2]).map rowW++(a.getD 3 default).rows.map rowW++(ints a [4,5,6,7,8,11]).map rowW++[encW (a.getD 9 default).str,encW (a.getD 10 default).str,encW (a.getD 12 default).str,encW (a.getD 13 default).str]:=by
 rw [dl,bv,jca,jca]
theorem txt4 {a b c d:ByteArray} {M:Nat} (ha:a.size≤M) (hb:b.size≤M) (hc:c.size≤M) (hd:d.size≤M):∀ i,i < ([[.s a],[.s b],[.s c],[.s d]]:List (List D)).length→((([[.s a],[.s b],[.s c],[.s d]]:List (List D)).getD i []).getD 0 default).str.size≤M
 | 0,_=>ha
 | 1,_=>hb
 | 2,_=>hc
 | 3,_=>hd
 | i+4,h=>absurd h (by simp)
theorem txt2 {a b:ByteArray} {M:Nat} (ha:a.size≤M) (hb:b.size≤M):∀ i,i < ([[.s a],[.s b]]:List (List D)).length→((([[.s a],[.s b]]:List (List D)).getD i []).getD 0 default).str.size≤M
 | 0,_=>ha
 | 1,_=>hb
 | i+2,h=>absurd h (by simp)
def qM (T:Tab) (cts:List CT):FSpec where
 pre args:=∃ a:List D,WfRow T cts a∧SmO a∧args=[argG cts a]
 res args:=match args with
  | [.val _ cs]=>.val false [.sl true 3 (bv (csD cs))]
  | _=>.none
def uS (T:Tab) (cts:List CT):FSpec where
 pre args:=∃ a:List D,WfRow T cts a∧SmO a∧args=[argG cts a]
 res args:=match args with
  | [.val _ cs]=>.val false [.b (bi (csD cs))]
  | _=>.none
def wn (T:Tab) (cts:List CT):FSpec where
 pre args:=∃ a:List D,WfRow T cts a∧SmO a∧args=[argG cts a]
 res args:=match args with
  | [.val _ cs]=>.val false [.s (ba (csD cs))]
  | _=>.none
def uO (e:TypeId):FSpec where
 pre args:=∃ (ws nums:List (List D)) (b:Bool),(ws.length+nums.length) * 16≤140737488355328∧args=[.tup [(true,[.sl true e ws,.b b])],argS 3 nums]
 bx:=true
 res _:=.tup []
 upd args:=match args with
  | [.tup [(_,[.sl _ e ws,.b b])],.val _ [.sl _ _ nums]]=>[.sl true e (ws++nums.map rowW),.b (b || !nums.all bX)]
  | _=>[]
def rowE (r:List D):List D:=encW (r.getD 0 default).str
def qH (e:TypeId):FSpec where
 pre args:=∃ (ws txts:List (List D)) (b:Bool),(ws.length+txts.length) * 16≤140737488355328∧(∀ i,i < txts.length→((txts.getD i []).getD 0 default).str.size≤70368744177664)∧args=[.tup [(true,[.sl true e ws,.b b])],argS 9 txts]
 bx:=true
 res _:=.tup []
 upd args:=match args with
  | [.tup [(_,[.sl _ e ws,.b b])],.val _ [.sl _ _ txts]]=>[.sl true e (ws++txts.map rowE),.b b]
  | _=>[]
end Go.Proofs.YtkpnfbdoaljkpaaGreatDoor.Ab
namespace Go.Proofs.YtkpnfbdoaljkpaaGreatDoor
open Go.Lib
def dg (c:UInt8):Nat:=if 48≤c.toNat∧c.toNat≤57 then c.toNat - 48 else if 97≤c.toNat∧c.toNat≤102 then c.toNat - 97+10 else 0
def ix:List UInt8→List UInt8
 | p :: q :: t=>UInt8.ofNat (16 * dg p+dg q) :: ix t
 | _=>[]
def encS (l:List UInt8):List UInt8:=if l=[] then [45] else Hx.encode l
def decR (l:List UInt8):List UInt8 × Bool:=if encS (ix l)=l then (ix l,true) else ([],false)
def isOk:Hx.Out→Bool
 | .ok=>true
 | _=>false
def decI (l:List UInt8):List UInt8 × Bool :=
 if l=[45] then ([],true) else if isOk (Hx.decode l).2=true∧encS (Hx.decode l).1=l then ((Hx.decode l).1,true) else ([],false)
theorem pk (n:Nat) (h:n < 16):dg (Hx.digit n)=n:=by
 have:∀ n:Fin 16,dg (Hx.digit n.val)=n.val:=by decide
 exact this ⟨n,h⟩
set_option maxRecDepth 100000 in
theorem v_digit (n:Nat) (h:n < 16):Hx.v (Hx.digit n)=n:=by
 have:∀ n:Fin 16,Hx.v (Hx.digit n.val)=n.val:=by decide
 exact this ⟨n,h⟩
theorem jO (b:UInt8):UInt8.ofNat (16 * (b.toNat / 16)+b.toNat % 16)=b:=by
 rw [show 16 * (b.toNat / 16)+b.toNat % 16=b.toNat by omega];simp
theorem em:∀ l:List UInt8,ix (Hx.encode l)=l
 | []=>rfl
 | b :: t=>by
   have hb:=b.toNat_lt
   rw [Hx.encode_cons,ix,pk _ (by omega),pk _ (by omega),jO,em t]
theorem decode_encode:∀ l:List UInt8,Hx.decode (Hx.encode l)=(l,.ok)
 | []=>Hx.decode_nil
 | b :: t=>by
   have hb:=b.toNat_lt
   rw [Hx.encode_cons,Hx.decode_two,v_digit _ (by omega),v_digit _ (by omega),if_neg (by omega),if_neg (by omega),decode_encode t,
    show b.toNat / 16 * 16+b.toNat % 16=16 * (b.toNat / 16)+b.toNat % 16 by omega,jO]
theorem sH {l m:List UInt8} (h:encS m=l) (hl:l ≠ [45]):m ≠ []∧Hx.encode m=l:=by
 unfold encS at h
 split at h
 · exact absurd h.symm hl
 · exact ⟨by assumption,h⟩
theorem uj (l:List UInt8):decI l=decR l:=by
 unfold decI decR
 by_cases hl:l=[45]
 · subst hl;rfl
 · rw [if_neg hl]
   by_cases h:encS (ix l)=l
   · obtain ⟨hm,he⟩:=sH h hl
     have hd:Hx.decode l=(ix l,.ok):=by rw [← he,decode_encode,he]
     rw [if_pos h,hd,if_pos ⟨rfl,h⟩]
   · rw [if_neg h,if_neg]
     rintro ⟨_,h2⟩
     obtain ⟨hm,he⟩:=sH h2 hl
     have hp:ix l=(Hx.decode l).1:=by rw [← he,em,he]
     exact h (by rw [hp];exact h2)
theorem ii:∀ l:List UInt8,(ix l).length=l.length / 2
 | []=>rfl
 | [_]=>by simp [ix]
 | _ :: _ :: t=>by
   have:=ii t
   simp only [ix,ja8]
   omega
end Go.Proofs.YtkpnfbdoaljkpaaGreatDoor
namespace Go.Proofs.YtkpnfbdoaljkpaaGreatDoor.Ab
open Go.RowKit
set_option linter.all false
open Classical in
noncomputable def prs (lo hi:Int) (s:ByteArray):Int × Bool:=if h:∃ n:Int,lo≤n∧n≤hi∧aM n=s then (h.choose,true) else (0,false)
theorem bT (n:Int):(aM n).data.toList=Lib.itoa n:=by simp [aM]
theorem rX {n m:Int} (h:aM n=aM m):n=m:=by
 have h1:=congrArg (fun s=>Lib.atoi s.data.toList) h
 simp only [bT,mZ,jbu] at h1
 exact h1
theorem fG {lo hi n:Int} {s:ByteArray} (h1:lo≤n) (h2:n≤hi) (h:aM n=s):prs lo hi s=(n,true):=by
 have hex:∃ n:Int,lo≤n∧n≤hi∧aM n=s:=⟨n,h1,h2,h⟩
 unfold prs
 rw [dif_pos hex]
 have:=hex.choose_spec
 rw [rX (this.2.2.trans h.symm)]
theorem jp {lo hi:Int} {s:ByteArray} (h:∀ n:Int,lo≤n→n≤hi→aM n ≠ s):prs lo hi s=(0,false):=dif_neg fun ⟨n,h1,h2,h3⟩=>h n h1 h2 h3
theorem oV {lo hi:Int} {s:ByteArray} (h1:lo≤0) (h2:0≤hi):lo≤(prs lo hi s).1∧(prs lo hi s).1≤hi:=by
 by_cases h:∃ n:Int,lo≤n∧n≤hi∧aM n=s
 · obtain ⟨n,h3,h4,h5⟩:=h
   rw [fG h3 h4 h5]
   exact ⟨h3,h4⟩
 · rw [jp fun n h3 h4 h5=>h ⟨n,h3,h4,h5⟩]
   exact ⟨h1,h2⟩
theorem ry {lo hi:Int} {s:ByteArray} (h:(prs lo hi s).2=true):aM (prs lo hi s).1=s:=by
 by_cases hx:∃ n:Int,lo≤n∧n≤hi∧aM n=s
 · obtain ⟨n,h3,h4,h5⟩:=hx
   rw [fG h3 h4 h5]
   exact h5
 · rw [jp fun n h3 h4 h5=>hx ⟨n,h3,h4,h5⟩] at h
   cases h
theorem mS {k u:Nat} (h:u < 10 ^ (k+1)):(Lib.decDigits u).length≤k+1:=bo k u h
theorem sO {b:UInt8} (h1:48≤b.toNat) (h2:b.toNat≤57):Lib.digitVal b=some (b.toNat - 48):=by
 unfold Lib.digitVal
 rw [if_pos ⟨h1,h2⟩]
theorem ri {l:List UInt8} {i N:Nat} {b:UInt8} (hd:Lib.decFrom 0 (l.take i)=some N) (hb:l[i]? = some b) (h1:48≤b.toNat) (h2:b.toNat≤57) :
 Lib.decFrom 0 (l.take (i+1))=some (N * 10+(b.toNat - 48)):=Lib.decFrom_take l i 0 N b _ hd hb (sO h1 h2)
theorem pT {n:Int} {s:ByteArray} (h:18 < s.size) (h1:-999999999999≤n) (h2:n≤999999999999):aM n ≠ s:=by
 intro e
 have hl:(Lib.itoa n).length=s.size:=by rw [← bT,e,jba];rfl
 have:=mS (k:=11) (u:=n.natAbs) (by simp only [Nat.reduceAdd,Nat.reducePow];omega)
 unfold Lib.itoa at hl
 split at hl
 · rw [ja8] at hl;omega
 · rw [show n.toNat=n.natAbs by omega] at hl;omega
def ao (s:ByteArray):List ByteArray:=(aG s.data.toList).map fun w=>⟨w.toArray⟩
theorem m8 (w r:List UInt8) (h:∀ b ∈ w,b ≠ 32):aG (w++32 :: r)=w :: aG r:=by
 have:=cQ w (32 :: r) h [] (aG r) (fP r)
 rw [this,jch]
theorem lM (w:List UInt8) (h:∀ b ∈ w,b ≠ 32):aG w=[w]:=by
 have:=cQ w [] h [] [] rfl
 simp only [jch] at this
 exact this
theorem jd:∀ (k:Nat) (s:ByteArray),s.size≤k→Lib.splitB ⟨#[32]⟩ 0 (Lib.countB s ⟨#[32]⟩) s=ao s
 | k, s, hk=>by
   have one:Lib.indexB s ⟨#[32]⟩=Lib.indexByte s.data.toList 32:=Lib.one s ⟨#[32]⟩ rfl
   have ge:=Lib.indexByte_ge s.data.toList 32
   rcases (by omega:Lib.indexByte s.data.toList 32 = -1∨0≤Lib.indexByte s.data.toList 32) with h|h
   · rw [Lib.countB_miss _ _ (one.trans h),Lib.splitB_zero]
     have hn:∀ b ∈ s.data.toList,b ≠ 32:=fun b hb e=>by
      obtain ⟨i,hi⟩:=jbZ hb
      exact Lib.indexByte_none h i (e ▸ hi)
     unfold ao
     rw [lM _ hn]
     rfl
   · obtain ⟨i,hi⟩:∃ i:Nat,Lib.indexByte s.data.toList 32=i:=⟨_,(Int.toNat_of_nonneg h).symm⟩
     obtain ⟨h1,h2⟩:=Lib.indexByte_some hi
     have hlt:i < s.data.toList.length:=(ja3.1 h1).1
     have hsz:s.data.toList.length=s.size:=by rw [jba];rfl
     rw [Lib.countB_hit _ _ i (by decide) (one.trans hi),Nat.add_comm,Lib.splitB_hit _ _ _ _ i (one.trans hi)]
     have hl:s.data.toList=s.data.toList.take i++32 :: s.data.toList.drop (i+1):=by
      have h3:s.data.toList[i]=32:=(ja3.1 h1).2
      rw [← h3,List.getElem_cons_drop,List.take_append_drop]
     have hw:aG s.data.toList=s.data.toList.take i :: aG (s.data.toList.drop (i+1)):=by
      conv=>lhs;rw [hl]
      exact m8 _ _ fun b hb e=>by
       obtain ⟨j,hj⟩:=jbZ hb
       have hj1:=(ja3.1 hj).1
       rw [jbc] at hj1
       rw [List.getElem?_take_of_lt (by omega)] at hj
       exact h2 j (by omega) (e ▸ hj)
     have ih:=jd (k - 1) (s.extract (i+1) s.size) (by rw [jbi];omega)
     have e1:(s.extract (i+1) s.size).data.toList=s.data.toList.drop (i+1):=by
      rw [jcK,jcT]
      rw [jcq, ← hsz,jbM]
     have e0:s.extract 0 (i+0)=⟨(s.data.toList.take i).toArray⟩:=by
      apply jcf
      apply jcc
      rw [jcK,jcT,jcq]
      simp
     show s.extract 0 (i+0) :: Lib.splitB ⟨#[32]⟩ 0 (Lib.countB (s.extract (i+1) s.size) ⟨#[32]⟩) (s.extract (i+1) s.size)=_
     rw [ih,e0]
     unfold ao
     rw [hw,e1]
     rfl
 termination_by k s=>s.size
 decreasing_by
  rw [jbi]
  have:s.data.toList.length=s.size:=by rw [jba];rfl
  omega
theorem iQ:∀ (l:List UInt8), ∀ w ∈ aG l,w.length≤l.length
 | [],w,h=>by
   rw [aG] at h
   rw [jbK.1 h]
   exact ja9 _
 | b :: r,w,h=>by
   have ih:=iQ r
   rw [aG] at h
   split at h
   · rcases ja1.1 h with rfl|h
     · exact jaU _
     · have:=ih w h;rw [ja8];omega
   · split at h
     · rename_i x xs hx
       rcases ja1.1 h with rfl|h
       · have:=ih x (by rw [hx];exact jbo ..)
         rw [ja8,ja8];omega
       · have:=ih w (by rw [hx];exact jbC _ h)
         rw [ja8];omega
     · rw [jbK.1 h,ja8,ja8]
       simp
theorem fQ:∀ (l:List UInt8),(aG l).length≤l.length+1
 | []=>ja9 _
 | b :: r=>by
   have ih:=fQ r
   rw [aG]
   split
   · rw [ja8,ja8];omega
   · split
     · rename_i x xs hx
       rw [hx,ja8] at ih
       rw [ja8,ja8];omega
     · rw [ja8,ja8];simp
theorem fo {s x:ByteArray} (h:x ∈ ao s):x.size≤s.size:=by
 obtain ⟨w,hw,rfl⟩:=jbB.1 h
 have hs:s.data.toList.length=s.size:=by rw [jba];rfl
 have:=iQ _ w hw
 show w.toArray.size≤_
 rw [jbr];omega
theorem dH (s:ByteArray):(ao s).length≤s.size+1:=by
 have hs:s.data.toList.length=s.size:=by rw [jba];rfl
 have:=fQ s.data.toList
 unfold ao
 rw [ja5];omega
def decT (s:ByteArray):ByteArray × Bool:=(⟨(decR s.data.toList).1.toArray⟩,(decR s.data.toList).2)
theorem sI (s:ByteArray):encS s.data.toList=(encB s).data.toList:=by
 unfold encS encB
 by_cases h:s.data.toList=[]
 · rw [if_pos h,if_pos h]
 · rw [if_neg h,if_neg h]
theorem pM (l:List UInt8):ix (encS l)=l:=by
 unfold encS
 split
 · rename_i h;rw [h];rfl
 · exact em l
theorem mU (t:ByteArray):decT (encB t)=(t,true):=by
 unfold decT decR
 rw [← sI,pM,if_pos rfl]
theorem oa (s:ByteArray):(decT s).1.size≤s.size:=by
 have hs:s.data.toList.length=s.size:=by rw [jba];rfl
 show (decR s.data.toList).1.toArray.size≤_
 rw [jbr]
 unfold decR
 split
 · rw [ii];omega
 · exact jaU _
abbrev sArg (s:ByteArray):SV:=.val false [.s s]
abbrev iArg (n:Int):SV:=.val false [.i .i64 n]
noncomputable def prsR (lo hi:Int) (s:ByteArray):SV:=.tup [(false,[.i .i64 (prs lo hi s).1]),(false,[.b (prs lo hi s).2])]
noncomputable def yL (lo hi:Int):FSpec where
 pre args:=∃ s:ByteArray,s.size≤281474976710656∧args=[sArg s]
 res args:=match args with
  | [.val _ [.s s]]=>prsR lo hi s
  | _=>.none
noncomputable def wm:FSpec where
 pre args:=∃ (s:ByteArray) (lo hi:Int),s.size≤281474976710656 ∧ -999999999999≤lo∧hi≤999999999999∧args=[sArg s,iArg lo,iArg hi]
 res args:=match args with
  | [.val _ [.s s],.val _ [.i _ lo],.val _ [.i _ hi]]=>prsR lo hi s
  | _=>.none
def yO:FSpec where
 pre args:=∃ s:ByteArray,s.size≤1048576∧args=[sArg s]
 res args:=match args with
  | [.val _ [.s s]]=>.tup [(false,[.s (decT s).1]),(false,[.b (decT s).2])]
  | _=>.none
def jf (o:Bool):FSpec where
 pre args:=∃ s:ByteArray,s.size≤1048576∧args=[sArg s,.val false [.i .u8 32]]
 res args:=match args with
  | [.val _ [.s s],_]=>.val false [.sl o 9 (af (ao s))]
  | _=>.none
def oI:FSpec where
 pre args:=∃ s:ByteArray,s.size≤1048576∧args=[sArg s,sArg ⟨#[32]⟩]
 res args:=match args with
  | [.val _ [.s s],_]=>.val false [.sl false 9 (af (ao s))]
  | _=>.none
theorem dF {s:ByteArray} {i:Nat} (h:i < s.size):s.data.toList[i]? = some (s.data.getD i 0):=by
 have hs:i < s.data.size:=h
 rw [jbW,Array.getD,dif_pos hs,jbv hs]
 rfl
def RI (t:ByteArray) (N i:Nat):Prop:=Lib.decFrom 0 (t.data.toList.take i)=some N∧N < 10 ^ i∧i≤t.size
theorem RI.zero (t:ByteArray):RI t 0 0:=⟨rfl,by decide,jaU _⟩
theorem RI.less {t:ByteArray} {N i:Nat} (h:RI t N i) (hi:i < t.size) (ht:t.size≤12):N < 100000000000:=jbR h.2.1 (ja0 (Nat.pow_le_pow_right (by decide) (show i≤11 by omega)) (by decide))
theorem RI.next {t:ByteArray} {N i:Nat} (h:RI t N i) (hi:i < t.size) (h1:¬ (t.data.getD i 0).toNat < 48) (h2:¬ (t.data.getD i 0).toNat > 57):RI t (N * 10+((t.data.getD i 0).toNat - 48)) (i+1):=by
 refine ⟨ri h.1 (dF hi) (by omega) (by omega),?_,hi⟩
 have:=h.2.1
 rw [Nat.pow_succ]
 omega
theorem RI.all {t:ByteArray} {N i:Nat} (h:RI t N i) (hi:¬ i < t.size):Lib.decFrom 0 t.data.toList=some N:=by
 have hsz:t.data.toList.length=t.size:=by rw [jba];rfl
 have:=h.1
 rw [jbw (by omega)] at this
 exact this
theorem RI.num {t:ByteArray} {N i:Nat} (h:RI t N i) (hi:i < t.size) (ht:t.size≤12) (h1:¬ (t.data.getD i 0).toNat < 48) (h2:¬ (t.data.getD i 0).toNat > 57) :
 IntKind.i64.wrap (IntKind.i64.wrap (10 * (N:Int))+IntKind.i64.wrap (IntKind.u8.wrap (((t.data.getD i 0).toNat:Int) - 48)))=((N * 10+((t.data.getD i 0).toNat - 48):Nat):Int):=by
 have hN:=h.less hi ht
 have e1:IntKind.u8.wrap (((t.data.getD i 0).toNat:Int) - 48)=((t.data.getD i 0).toNat:Int) - 48:=IntWalk.u8_in _ (by omega)
 have e2:IntKind.i64.wrap (((t.data.getD i 0).toNat:Int) - 48)=((t.data.getD i 0).toNat:Int) - 48:=IntWalk.i64_in _ (by omega)
 have e3:IntKind.i64.wrap (10 * (N:Int))=10 * (N:Int):=IntWalk.i64_in _ (by omega)
 rw [e1,e2,e3,IntWalk.i64_in _ (by omega)]
 omega
abbrev wAt (rows:List (List D)) (k:Nat):ByteArray:=((rows.getD k []).getD 0 default).str
def SmW (rows:List (List D)):Prop:=∀ k,k < rows.length→(wAt rows k).size≤1048576
noncomputable def numS (rows:List (List D)) (k:Nat):Int:=if k < rows.length then (prs (-999999999999) 999999999999 (wAt rows k)).1 else 0
def txtS (rows:List (List D)) (k:Nat):ByteArray:=if k < rows.length then (decT (wAt rows k)).1 else ⟨#[]⟩
abbrev scn (rows:List (List D)) (b:Bool):SV:=.tup [(true,[.sl false 9 rows,.b b])]
def hdW (rows:List (List D)):ByteArray:=if rows.length=0 then ⟨#[]⟩ else wAt rows 0
def okW (rows:List (List D)) (b:Bool):Bool:=if rows.length=0 then false else b
noncomputable abbrev gj (rows:List (List D)):Int × Bool:=prs (-1000000000) 1000000000 (hdW rows)
def qG:FSpec where
 pre args:=∃ (rows:List (List D)) (b:Bool),args=[scn rows b]
 bx:=true
 res args:=match args with
  | [.tup [(_,[.sl _ _ rows,.b b])]]=>sArg (hdW rows)
  | _=>.none
 upd args:=match args with
  | [.tup [(_,[.sl _ _ rows,.b b])]]=>[.sl false 9 (rows.drop 1),.b (okW rows b)]
  | _=>[]
noncomputable def uR:FSpec where
 pre args:=∃ (rows:List (List D)) (b:Bool),SmW rows∧args=[scn rows b]
 bx:=true
 res args:=match args with
  | [.tup [(_,[.sl _ _ rows,.b b])]]=>iArg (gj rows).1
  | _=>.none
 upd args:=match args with
  | [.tup [(_,[.sl _ _ rows,.b b])]]=>[.sl false 9 (rows.drop 1),.b (okW rows b && (gj rows).2)]
  | _=>[]
def uP:FSpec where
 pre args:=∃ (rows:List (List D)) (b:Bool),SmW rows∧args=[scn rows b]
 bx:=true
 res args:=match args with
  | [.tup [(_,[.sl _ _ rows,.b b])]]=>sArg (decT (hdW rows)).1
  | _=>.none
 upd args:=match args with
  | [.tup [(_,[.sl _ _ rows,.b b])]]=>[.sl false 9 (rows.drop 1),.b (okW rows b && (decT (hdW rows)).2)]
  | _=>[]
theorem ls {rows:List (List D)} (h:SmW rows):(hdW rows).size≤1048576:=by
 unfold hdW
 split
 · exact jaU _
 · exact h 0 (by omega)
theorem xA {rows:List (List D)} (h:((rows.length:Int) == 0)=false):wAt rows (Int.toNat 0)=hdW rows∧rows.length ≠ 0:=by
 have h1:(rows.length:Int) ≠ 0:=by simpa using h
 have h2:rows.length ≠ 0:=by omega
 exact ⟨by unfold hdW;rw [if_neg h2];rfl,h2⟩
theorem jaf {rows:List (List D)} (h:((rows.length:Int) == 0)=true):⟨#[]⟩=hdW rows∧rows.length=0:=by
 have h1:(rows.length:Int)=0:=eq_of_beq h
 have h2:rows.length=0:=by omega
 exact ⟨by unfold hdW;rw [if_pos h2],h2⟩
theorem updNo {rows:List (List D)} {b:Bool} (h:rows.length=0):[CV.sl false 9 rows,CV.b false]=[CV.sl false 9 (rows.drop 1),CV.b (okW rows b)]:=by
 have:rows=[]:=jbq.1 h
 subst this
 rfl
theorem yg {rows:List (List D)} {b:Bool} (h:rows.length ≠ 0):[CV.sl false 9 (List.drop (Int.toNat 1) (List.take ((rows.length:Int)).toNat rows)),CV.b b]=[CV.sl false 9 (rows.drop 1),CV.b (okW rows b)]:=by
 unfold okW
 rw [if_neg h,jbf,jbM]
 rfl
theorem updB {rows:List (List D)} {x y:Bool} (h:x=y):[CV.sl false 9 rows,CV.b x]=[CV.sl false 9 rows,CV.b y]:=by rw [h]
def SpI (s:ByteArray) (o:List ByteArray) (fr i:Nat):Prop :=
 o.length≤i∧((i≤s.size∧fr≤i∧aG (s.data.toList.take i)=o.map (·.data.toList)++[(s.extract fr i).data.toList])∨(i=s.size+1∧o=ao s))
theorem ext_list (s:ByteArray) (a b:Nat):(s.extract a b).data.toList=(s.data.toList.take b).drop a:=by
 rw [jcK,jcT,jcq]
theorem SpI.zero (s:ByteArray):SpI s [] 0 0:=⟨ja9 _,.inl ⟨jaU _,ja9 _,by rw [ext_list];rfl⟩⟩
theorem SpI.full {s:ByteArray} {o:List ByteArray} {fr i:Nat} (h:SpI s o fr i) (hi:i=s.size):SpI s (o++[s.extract fr i]) (i+1) (i+1):=by
 have hs:s.data.toList.length=s.size:=by rw [jba];rfl
 obtain ⟨h0,⟨_,h2,h3⟩|⟨h2,_⟩⟩:=h
 · refine ⟨by rw [jaV,jb5];omega,.inr ⟨by omega,?_⟩⟩
   rw [jbw (by omega)] at h3
   unfold ao
   have e1:∀ x:ByteArray,(⟨x.data.toList.toArray⟩:ByteArray)=x:=fun x=>by simp
   rw [h3,jca,jci]
   have e2:(o.map ((fun w:List UInt8=>(⟨w.toArray⟩:ByteArray)) ∘ fun x=>x.data.toList))=o:=by
    conv=>rhs;rw [← List.map_id o]
    exact jco fun x _=>e1 x
   rw [e2,jcX,e1]
 · omega
theorem iV {s:ByteArray} {i:Nat} (hi:i < s.size):s.data.toList.take (i+1)=s.data.toList.take i++[s.data.getD i 0]:=by
 rw [jbS,dF hi];rfl
theorem SpI.space {s:ByteArray} {o:List ByteArray} {fr i:Nat} (h:SpI s o fr i) (hi:i < s.size) (hb:s.data.getD i 0=32):SpI s (o++[s.extract fr i]) (i+1) (i+1):=by
 obtain ⟨h0,⟨_,h2,h3⟩|⟨h2,_⟩⟩:=h
 · refine ⟨by rw [jaV,jb5];omega,.inl ⟨hi,ja9 _,?_⟩⟩
   rw [iV hi,dZ _ _ _ _ h3,if_pos hb,jca,ext_list s (i+1) (i+1),List.drop_of_length_le (by rw [jbc];omega)]
   rfl
 · omega
theorem SpI.miss {s:ByteArray} {o:List ByteArray} {fr i:Nat} (h:SpI s o fr i) (hi:i < s.size) (hb:s.data.getD i 0 ≠ 32):SpI s o fr (i+1):=by
 have hs:s.data.toList.length=s.size:=by rw [jba];rfl
 obtain ⟨h0,⟨_,h2,h3⟩|⟨h2,_⟩⟩:=h
 · refine ⟨by omega,.inl ⟨hi,by omega,?_⟩⟩
   rw [iV hi,dZ _ _ _ _ h3,if_neg hb,ext_list,ext_list,iV hi,List.drop_append_of_le_length (by rw [jbc];omega)]
 · omega
theorem SpI.done {s:ByteArray} {o:List ByteArray} {fr i:Nat} (h:SpI s o fr i) (hi:¬ i≤s.size):o=ao s:=by
 obtain ⟨_,⟨h1,_⟩|⟨_,h3⟩⟩:=h
 · omega
 · exact h3
theorem SpI.le {s:ByteArray} {o:List ByteArray} {fr i:Nat} (h:SpI s o fr i) (hi:i≤s.size):fr≤i∧o.length≤i:=by
 obtain ⟨h0,⟨_,h2,_⟩|⟨h2,_⟩⟩:=h
 · exact ⟨h2,h0⟩
 · omega
theorem fq (o:List ByteArray) (x:ByteArray):af o++([]++[[D.s x]])=af (o++[x]):=by simp [af]
theorem wI {f:List (List D)→Int→Int→Snap} {r r' : List (List D)} {a a' b b' : Int} (h:r=r') (h2:a=a') (h3:b=b'):f r a b=f r' a' b' := by rw [h,h2,h3]
theorem byte_of {s:ByteArray} {i:Nat} {x:Bool} (h:(((s.data.getD (Int.toNat (i:Int)) 0).toNat:Int) == 32)=x):(x=true→s.data.getD i 0=32)∧(x=false→s.data.getD i 0 ≠ 32):=by
 rw [jbf] at h
 refine ⟨fun hx=>?_,fun hx e=>?_⟩
 · rw [hx] at h
   have h2:((s.data.getD i 0).toNat:Int)=32:=eq_of_beq h
   have h3:(s.data.getD i 0).toNat=32:=by omega
   exact UInt8.toNat_inj.1 h3
 · rw [hx,e] at h
   exact absurd h (by decide)
end Go.Proofs.YtkpnfbdoaljkpaaGreatDoor.Ab
