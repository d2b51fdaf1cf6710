/- Operations, in plain Lean: when they are valid; their numbers; their -/
import Derived.Test.YtcllpknipmcolaaGreatDoorCQa
import Derived.Lib.HexFns2
import Derived.Lib.SplitLaws
namespace Go.Proofs.YtcllpknipmcolaaGreatDoor.Ab
open Go.RowKit
set_option linter.all false
def intOf (r:List D):Int:=(r.getD 0 default).int
def gv (rows:List (List D)):Bool:=rows.all (fun r=>inR (intOf r) 0 60) && decide (rows.length=3)
def kV (a:List D):Bool:=(a.getD 4 default).int == 0 && ((a.getD 5 default).int == 0 && ((a.getD 6 default).int == 0 && ((a.getD 7 default).int == 0 && ((a.getD 8 default).int == 0 && ((a.getD 9 default).str.toList == (⟨#[]⟩:ByteArray).toList && ((a.getD 10 default).str.toList == (⟨#[]⟩:ByteArray).toList && (a.getD 11 default).int == 0))))))
def im (a:List D):Bool:=(a.getD 12 default).str.toList == (⟨#[]⟩:ByteArray).toList && (a.getD 13 default).str.toList == (⟨#[]⟩:ByteArray).toList
def kU (a:List D):Bool:=(a.getD 14 default).int == 0 && ((a.getD 15 default).int == 0 && ((a.getD 16 default).rows.length:Int) == 0)
def okOp (a:List D):Bool:=inR (a.getD 0 default).int 1 300 && (inR (a.getD 1 default).int 0 2 && (gv (a.getD 3 default).rows && (inR (a.getD 2 default).int 1 3 &&
 (if (a.getD 2 default).int=1 then im a && kU a else if (a.getD 2 default).int=2 then kV a && kU a else kV a && im a))))
def wz:FSpec where
 pre args:=∃ rows:List (List D),args=[argS 3 rows]
 res args:=match args with
  | [.val _ [.sl _ _ rows]]=>.val false [.b (gv rows)]
  | _=>.none
def spOp (T:Tab) (cts:List CT):FSpec where
 pre args:=∃ a:List D,WfRow T cts a∧args=[argG cts a]
 res args:=match args with
  | [.val _ cs]=>.val false [.b (okOp (csD cs))]
  | _=>.none
theorem gV {p:List D→Bool} {rows:List (List D)} {i:Int} (h0:0≤i) (hi:i < rows.length) (h:(rows.take i.toNat).all p=true) (hp:p (rows.getD i.toNat [])=true):(rows.take (i+1).toNat).all p=true:=by
 have e:(i+1).toNat=i.toNat+1:=by omega
 rw [e,jdj,fD h0 hi,jem,h]
 simpa using hp
theorem gU {p:List D→Bool} {rows:List (List D)} {i:Int} (h0:0≤i) (hi:i < rows.length) (hp:p (rows.getD i.toNat [])=false):rows.all p=false:=by
 rw [List.all_eq_false]
 refine ⟨rows.getD i.toNat [],?_,by rw [hp];simp⟩
 exact jcE (fD h0 hi)
theorem o8 {p:List D→Bool} {rows:List (List D)} {i:Int} (h0:0≤i) (hi:i≤rows.length) (hn:decide (i < (rows.length:Int))=false) (h:(rows.take i.toNat).all p=true):rows.all p=true:=by
 have hn' : ¬ i < (rows.length:Int):=by simpa using hn
 have:i.toNat=rows.length:=by omega
 rwa [this,jdd] at h
theorem okOp_rowC {cts:List CT} {a:List D} (wa:WfRow T cts a):okOp (csD (rowC cts a))=okOp a:=by rw [aw wa]
def bW (r:List D):Bool:=inR (intOf r) (-1000000000) 1000000000
abbrev numI (x:Int):List D:=[.i x]
abbrev numW (x:Int):List D:=[.s (aC x)]
abbrev encW (x:ByteArray):List D:=[.s (encB x)]
abbrev ints (a:List D) (js:List Nat):List (List D):=js.map fun j=>numI (a.getD j default).int
def bC (a:List D):List (List D):=ints a [0,1,2]++(a.getD 3 default).rows++ints a [4,5,6,7,8,11]
def ej (r:List D):List (List D):=ints r [0,1,2]
abbrev rds (a:List D):List (List D):=(a.getD 16 default).rows
def aD (a:List D) (i:Nat):List (List D):=bC a++ints a [14,15]++((rds a).take i).flatMap ej
def bK (r:List D):Bool:=((r.getD 4 default).int == 1 || (r.getD 4 default).int == 6) && okVal (sub r 4 7)
def bo (a:List D):Bool:=(rds a).all bK && ((aD a (rds a).length).all bW && okOp a)
def rowW (r:List D):List D:=numW (intOf r)
def bj (r:List D):List (List D):=[numW (r.getD 0 default).int,numW (r.getD 1 default).int,numW (r.getD 2 default).int,encW (r.getD 3 default).str,encW (bD (sub r 4 7))]
def dm (a:List D):List (List D):=(bC a).map rowW++[encW (a.getD 9 default).str,encW (a.getD 10 default).str,encW (a.getD 12 default).str,encW (a.getD 13 default).str]
def dl (a:List D):List (List D):=dm a++[numW (a.getD 14 default).int,numW (a.getD 15 default).int,numW ((rds a).length:Int)]
def aK (a:List D) (i:Nat):List (List D):=dl a++((rds a).take i).flatMap bj
def aL (a:List D):ByteArray:=if bo a then bg (strsOf (aK a (rds a).length)) ⟨#[32]⟩ else ⟨#[]⟩
def SmO (a:List D):Prop:=(a.getD 3 default).rows.length≤1048576∧(rds a).length≤1048576∧((a.getD 9 default).str.size≤1048576∧(a.getD 10 default).str.size≤1048576∧(a.getD 12 default).str.size≤1048576∧(a.getD 13 default).str.size≤1048576) ∧
 ∀ i,i < (rds a).length→(((rds a).getD i []).getD 3 default).str.size≤1048576∧(((rds a).getD i []).getD 9 default).rows.length+(((rds a).getD i []).getD 10 default).rows.length≤2097152
theorem bU (a:List D):(bC a).length=(a.getD 3 default).rows.length+9:=by simp [bC,ints]
theorem gP (f:List D→List (List D)) (k:Nat) (h:∀ r,(f r).length=k) (l:List (List D)):(l.flatMap f).length=k * l.length:=by
 induction l with
 | nil=>rfl
 | cons r l ih=>rw [jee,jcm,ih,h,jcz,Nat.mul_add,jd2,Nat.add_comm]
theorem jU {a:List D} {i:Nat} (hi:i≤(rds a).length):(aD a i).length=(a.getD 3 default).rows.length+11+3 * i:=by
 simp only [aD,jcm,bU,gP ej 3 (fun _=>rfl),jcD,ints,jcw,jcz,jcI,jdz hi]
theorem aP (a:List D):(dm a).length=(a.getD 3 default).rows.length+13:=by simp [dm,bU]
theorem c7 (a:List D):(dl a).length=(a.getD 3 default).rows.length+16:=by simp [dl,aP]
theorem bu {a:List D} {i:Nat} (hi:i≤(rds a).length):(aK a i).length=(a.getD 3 default).rows.length+16+5 * i:=by
 simp only [aK,jcm,c7,gP bj 5 (fun _=>rfl),jcD,jdz hi]
theorem nx {f:List D→List (List D)} {rows:List (List D)} {i:Int} (h0:0≤i) (hi:i < rows.length):(rows.take (i+1).toNat).flatMap f=(rows.take i.toNat).flatMap f++f (rows.getD i.toNat []):=by
 have e:(i+1).toNat=i.toNat+1:=by omega
 rw [e,jdj,fD h0 hi,List.flatMap_append]
 simp
theorem mb {f:List D→List D} {rows:List (List D)} {i:Int} (h0:0≤i) (hi:i < rows.length):(rows.take (i+1).toNat).map f=(rows.take i.toNat).map f++[f (rows.getD i.toNat [])]:=by
 have e:(i+1).toNat=i.toNat+1:=by omega
 rw [e,jdj,fD h0 hi,jdB]
 simp
theorem gD {a:List D} {i:Int} (h0:0≤i) (hi:i < (rds a).length):aD a i.toNat++ej ((rds a).getD i.toNat [])=aD a (i+1).toNat:=by
 rw [aD,aD,nx h0 hi,jc0]
theorem fF {a:List D} {i:Int} (h0:0≤i) (hi:i < (rds a).length):aK a i.toNat++bj ((rds a).getD i.toNat [])=aK a (i+1).toNat:=by
 rw [aK,aK,nx h0 hi,jc0]
theorem bz:∀ (k u:Nat),u < 10 ^ (k+1)→(Lib.decDigits u).length≤k+1
 | 0,u,h=>by
   rw [Lib.decDigits,dif_pos (by simpa using h)]
   simp
 | k+1,u,h=>by
   rw [Lib.decDigits]
   split
   · simp
   · have:=bz k (u / 10) (by rw [Nat.div_lt_iff_lt_mul (by decide)];rw [Nat.pow_succ] at h;exact h)
     rw [jcm,jdw]
     omega
theorem de {n:Int} (h:inR n (-1000000000) 1000000000=true):(aC n).size≤11:=by
 simp only [inR,jcx,decide_eq_true_eq] at h
 show (Lib.itoa n).toArray.size≤_
 rw [jcS]
 unfold Lib.itoa
 split
 · have:=bz 9 n.natAbs (by simp only [Nat.reduceAdd,Nat.reducePow];omega)
   rw [jcz]
   omega
 · have:=bz 9 n.toNat (by simp only [Nat.reduceAdd,Nat.reducePow];omega)
   omega
theorem iN (sep:List UInt8) (M:Nat):∀ (xs:List (List UInt8)),(∀ x ∈ xs,x.length≤M)→(Lib.joinTail sep xs).length≤xs.length * (M+sep.length)
 | [],_=>jcl _
 | x :: xs,h=>by
   have ih:=iN sep M xs (fun y hy=>h y (jc3 _ hy))
   have hx:=h x (jcP ..)
   have:Lib.joinTail sep (x :: xs)=sep++x++Lib.joinTail sep xs:=by simp [Lib.joinTail]
   rw [this,jcm,jcm,jcz,jdY,Nat.one_mul]
   omega
theorem dc {xs:List ByteArray} {sep:ByteArray} {M:Nat} (h:∀ x ∈ xs,x.size≤M):(bg xs sep).size≤xs.length * (M+sep.size):=by
 show (Lib.join (xs.map (·.data.toList)) sep.data.toList).toArray.size≤_
 rw [jcS]
 have hs:sep.data.toList.length=sep.size:=by rw [jcB];rfl
 cases xs with
 | nil=>exact jcl _
 | cons x xs =>
   have hx:x.data.toList.length≤M:=by rw [jcB];exact h x (jcP ..)
   have:=iN sep.data.toList M (xs.map (·.data.toList)) (fun y hy=>by
    obtain ⟨z,hz,rfl⟩:=jc2.1 hy
    rw [jcB];exact h z (jc3 _ hz))
   rw [hs,jcw] at this
   have hj:Lib.join ((x :: xs).map (·.data.toList)) sep.data.toList=x.data.toList++Lib.joinTail sep.data.toList (xs.map (·.data.toList)):=Lib.join_cons _ _ _
   rw [hj,jcm,jcz,jdY,Nat.one_mul]
   omega
def v7 (M:Nat) (r:List D):Prop:=(r.getD 0 default).str.size≤M
theorem dT {a:List D} (h:okVal a=true) (hk:(a.getD 0 default).int=1∨(a.getD 0 default).int=6):(bD a).size≤15:=by
 rcases hk with h1|h6
 · rw [tO h1]
   simp only [okVal,h1,if_true,jcx] at h
   have hn:inR (a.getD 1 default).int (-1000000000) 1000000000=true:=by simp_all
   have:=de hn
   omega
 · rw [tP h6,jcF]
   have:=dK (a.getD 1 default).int
   show 6+_≤_
   omega
theorem b8 {r:List D} (h:bK r=true):((sub r 4 7).getD 0 default).int=1∨((sub r 4 7).getD 0 default).int=6:=by
 simp only [bK,jcx,jdM,beq_iff_eq] at h
 exact h.1
theorem cS {r:List D} (h:bK r=true):okVal (sub r 4 7)=true:=by
 simp only [bK,jcx] at h
 exact h.2
theorem fW {a:List D} (hs:SmO a) (hg:bo a=true):(bg (strsOf (aK a (rds a).length)) ⟨#[32]⟩).size≤140737488355328:=by
 have hl:(strsOf (aK a (rds a).length)).length=(a.getD 3 default).rows.length+16+5 * (rds a).length:=by rw [strsOf,jcw,bu (jcA _)]
 simp only [bo,jcx] at hg
 have hw:∀ r ∈ aK a (rds a).length,v7 2097153 r:=by
  have nums:∀ r ∈ aD a (rds a).length,(aC (intOf r)).size≤2097153:=fun r hr=>jcr (de (jcH.1 hg.2.1 r hr)) (by decide)
  have enc:∀ s:ByteArray,s.size≤1048576→(encB s).size≤2097153:=fun s h=>by have:=nC s;omega
  have n14:(aC (a.getD 14 default).int).size≤2097153:=nums (numI (a.getD 14 default).int) (by simp [aD,ints])
  have n15:(aC (a.getD 15 default).int).size≤2097153:=nums (numI (a.getD 15 default).int) (by simp [aD,ints])
  have nl:(aC ((rds a).length:Int)).size≤2097153:=jcr (de (by have:=hs.2.1;simp only [inR,jcx,decide_eq_true_eq];omega)) (by decide)
  intro r hr
  unfold aK dl dm at hr
  rcases jcU.1 hr with hr|hr
  · rcases jcU.1 hr with hr|hr
    · rcases jcU.1 hr with hr|hr
      · obtain ⟨x,hx,rfl⟩:=jc2.1 hr
        exact nums x (by unfold aD;exact jd1 _ (jd1 _ hx))
      · simp only [jcs,jco,or_false] at hr
        rcases hr with rfl|rfl|rfl|rfl
        · exact enc _ hs.2.2.1.1
        · exact enc _ hs.2.2.1.2.1
        · exact enc _ hs.2.2.1.2.2.1
        · exact enc _ hs.2.2.1.2.2.2
    · simp only [jcs,jco,or_false] at hr
      rcases hr with rfl|rfl|rfl
      · exact n14
      · exact n15
      · exact nl
  · rw [jdd] at hr
    obtain ⟨x,hx,hr⟩:=jdU.1 hr
    have hgx:=jcH.1 hg.1 x hx
    obtain ⟨i,hi,he⟩:=jd0.1 hx
    have hb:=hs.2.2.2 i hi
    rw [show (rds a).getD i []=x by rw [jcp,jcj hi,he];rfl] at hb
    have hin:∀ j,j=0∨j=1∨j=2→(aC (x.getD j default).int).size≤2097153:=fun j hj=>nums (numI (x.getD j default).int) (by
     unfold aD
     refine List.mem_append_right _ ?_
     rw [jdd]
     refine jdU.2 ⟨x,hx,?_⟩
     rcases hj with rfl|rfl|rfl <;> simp [ej,ints])
    simp only [bj,jcs,jco,or_false] at hr
    rcases hr with rfl|rfl|rfl|rfl|rfl
    · exact hin 0 (.inl rfl)
    · exact hin 1 (.inr (.inl rfl))
    · exact hin 2 (.inr (.inr rfl))
    · exact enc _ hb.1
    · exact enc _ (jcr (dT (cS hgx) (b8 hgx)) (by decide))
 have:=dc (xs:=strsOf (aK a (rds a).length)) (sep:=⟨#[32]⟩) (M:=2097153) (fun x hx=>by
  obtain ⟨r,hr,rfl⟩:=jc2.1 hx
  exact hw r hr)
 have h1:=hs.1
 have h2:=hs.2.1
 rw [hl] at this
 refine jcr this (jcr (Nat.mul_le_mul (show _≤1048576+16+5 * 1048576 by omega) (jcA _)) (by decide))
theorem jh {p:List D→Bool} {xs ys:List (List D)}:(!(xs.all p) || !(ys.all p))=!((xs++ys).all p):=by rw [jem,Bool.not_and]
def il (a:List D) (i:Nat):Bool:=!((aD a i).all bW)
theorem qL {a:List D} (h:(rds a).length≤1048576):(!((bC a).all bW) || !(([numI (a.getD 14 default).int,numI (a.getD 15 default).int,numI ((rds a).length:Int)]:List (List D)).all bW))=il a 0:=by
 have hn:bW (numI ((rds a).length:Int))=true:=by
  show inR ((rds a).length:Int) (-1000000000) 1000000000=true
  simp only [inR,jcx,decide_eq_true_eq]
  omega
 rw [jh,il,aD,List.take_zero,List.flatMap_nil,jdI,jem,jem]
 simp only [jd6,List.all_nil,hn,ints,jdr,List.map_nil,jc4]
theorem qM {a:List D} {i:Int} (h0:0≤i) (hi:i < (rds a).length):(il a i.toNat || !((ej ((rds a).getD i.toNat [])).all bW))=il a (i+1).toNat:=by
 rw [il,jh,gD h0 hi]
 rfl
theorem oz (a:List D):dm a=(ints a [0,1,2]).map rowW++(a.getD 3 default).rows.map rowW++(ints a [4,5,6,7,8,11]).map rowW++[encW (a.getD 9 default).str,encW (a.getD 10 default).str,encW (a.getD 12 default).str,encW (a.getD 13 default).str]:=by
 rw [dm,bC,jdB,jdB]
theorem txt4 {a b c d:ByteArray} {M:Nat} (ha:a.size≤M) (hb:b.size≤M) (hc:c.size≤M) (hd:d.size≤M):∀ i,i < ([[.s a],[.s b],[.s c],[.s d]]:List (List D)).length→((([[.s a],[.s b],[.s c],[.s d]]:List (List D)).getD i []).getD 0 default).str.size≤M
 | 0,_=>ha
 | 1,_=>hb
 | 2,_=>hc
 | 3,_=>hd
 | i+4,h=>absurd h (by simp)
theorem txt2 {a b:ByteArray} {M:Nat} (ha:a.size≤M) (hb:b.size≤M):∀ i,i < ([[.s a],[.s b]]:List (List D)).length→((([[.s a],[.s b]]:List (List D)).getD i []).getD 0 default).str.size≤M
 | 0,_=>ha
 | 1,_=>hb
 | i+2,h=>absurd h (by simp)
def rR (T:Tab) (cts:List CT):FSpec where
 pre args:=∃ a:List D,WfRow T cts a∧SmO a∧args=[argG cts a]
 res args:=match args with
  | [.val _ cs]=>.val false [.sl true 3 (bC (csD cs))]
  | _=>.none
def wG (T:Tab) (cts:List CT):FSpec where
 pre args:=∃ a:List D,WfRow T cts a∧SmO a∧args=[argG cts a]
 res args:=match args with
  | [.val _ cs]=>.val false [.b (bo (csD cs))]
  | _=>.none
def rQ (T:Tab) (cts:List CT):FSpec where
 pre args:=∃ a:List D,WfRow T cts a∧SmO a∧args=[argG cts a]
 res args:=match args with
  | [.val _ cs]=>.val false [.s (aL (csD cs))]
  | _=>.none
def ww (e:TypeId):FSpec where
 pre args:=∃ (ws nums:List (List D)) (b:Bool),(ws.length+nums.length) * 16≤140737488355328∧args=[.tup [(true,[.sl true e ws,.b b])],argS 3 nums]
 bx:=true
 res _:=.tup []
 upd args:=match args with
  | [.tup [(_,[.sl _ e ws,.b b])],.val _ [.sl _ _ nums]]=>[.sl true e (ws++nums.map rowW),.b (b || !nums.all bW)]
  | _=>[]
def rowE (r:List D):List D:=encW (r.getD 0 default).str
def rJ (e:TypeId):FSpec where
 pre args:=∃ (ws txts:List (List D)) (b:Bool),(ws.length+txts.length) * 16≤140737488355328∧(∀ i,i < txts.length→((txts.getD i []).getD 0 default).str.size≤70368744177664)∧args=[.tup [(true,[.sl true e ws,.b b])],argS 9 txts]
 bx:=true
 res _:=.tup []
 upd args:=match args with
  | [.tup [(_,[.sl _ e ws,.b b])],.val _ [.sl _ _ txts]]=>[.sl true e (ws++txts.map rowE),.b b]
  | _=>[]
end Go.Proofs.YtcllpknipmcolaaGreatDoor.Ab
namespace Go.Proofs.YtcllpknipmcolaaGreatDoor
open Go.Lib
def dg (c:UInt8):Nat:=if 48≤c.toNat∧c.toNat≤57 then c.toNat - 48 else if 97≤c.toNat∧c.toNat≤102 then c.toNat - 97+10 else 0
theorem vG (c:UInt8):dg c≤15:=by unfold dg;split <;> (try split) <;> omega
def bO:List UInt8→List UInt8
 | p :: q :: t=>UInt8.ofNat (16 * dg p+dg q) :: bO t
 | _=>[]
def encS (l:List UInt8):List UInt8:=if l=[] then [45] else Hx.encode l
def decR (l:List UInt8):List UInt8 × Bool:=if encS (bO l)=l then (bO l,true) else ([],false)
def isOk:Hx.Out→Bool
 | .ok=>true
 | _=>false
def decI (l:List UInt8):List UInt8 × Bool :=
 if l=[45] then ([],true) else if isOk (Hx.decode l).2=true∧encS (Hx.decode l).1=l then ((Hx.decode l).1,true) else ([],false)
theorem qg (n:Nat) (h:n < 16):dg (Hx.digit n)=n:=by
 have:∀ n:Fin 16,dg (Hx.digit n.val)=n.val:=by decide
 exact this ⟨n,h⟩
set_option maxRecDepth 100000 in
theorem v_digit (n:Nat) (h:n < 16):Hx.v (Hx.digit n)=n:=by
 have:∀ n:Fin 16,Hx.v (Hx.digit n.val)=n.val:=by decide
 exact this ⟨n,h⟩
theorem kl (b:UInt8):UInt8.ofNat (16 * (b.toNat / 16)+b.toNat % 16)=b:=by
 rw [show 16 * (b.toNat / 16)+b.toNat % 16=b.toNat by omega];simp
theorem eU:∀ l:List UInt8,bO (Hx.encode l)=l
 | []=>rfl
 | b :: t=>by
   have hb:=b.toNat_lt
   rw [Hx.encode_cons,bO,qg _ (by omega),qg _ (by omega),kl,eU t]
theorem decode_encode:∀ l:List UInt8,Hx.decode (Hx.encode l)=(l,.ok)
 | []=>Hx.decode_nil
 | b :: t=>by
   have hb:=b.toNat_lt
   rw [Hx.encode_cons,Hx.decode_two,v_digit _ (by omega),v_digit _ (by omega),if_neg (by omega),if_neg (by omega),decode_encode t,
    show b.toNat / 16 * 16+b.toNat % 16=16 * (b.toNat / 16)+b.toNat % 16 by omega,kl]
theorem tV {l m:List UInt8} (h:encS m=l) (hl:l ≠ [45]):m ≠ []∧Hx.encode m=l:=by
 unfold encS at h
 split at h
 · exact absurd h.symm hl
 · exact ⟨by assumption,h⟩
theorem vI (l:List UInt8):decI l=decR l:=by
 unfold decI decR
 by_cases hl:l=[45]
 · subst hl;rfl
 · rw [if_neg hl]
   by_cases h:encS (bO l)=l
   · obtain ⟨hm,he⟩:=tV h hl
     have hd:Hx.decode l=(bO l,.ok):=by rw [← he,decode_encode,he]
     rw [if_pos h,hd,if_pos ⟨rfl,h⟩]
   · rw [if_neg h,if_neg]
     rintro ⟨_,h2⟩
     obtain ⟨hm,he⟩:=tV h2 hl
     have hp:bO l=(Hx.decode l).1:=by rw [← he,eU,he]
     exact h (by rw [hp];exact h2)
theorem eS:∀ l:List UInt8,(bO l).length=l.length / 2
 | []=>rfl
 | [_]=>by simp [bO]
 | _ :: _ :: t=>by
   have:=eS t
   simp only [bO,jcz]
   omega
theorem iF:∀ (a:List UInt8) (p q:UInt8),a.length % 2=0→bO (a++[p,q])=bO a++[UInt8.ofNat (16 * dg p+dg q)]
 | [],_,_,_=>rfl
 | [x],_,_,h=>by simp at h
 | x :: y :: t,p,q,h=>by
   have:=iF t p q (by simp only [jcz] at h;omega)
   simp only [jcq,bO,this]
theorem m7:∀ (a:List UInt8) (p:UInt8),a.length % 2=0→bO (a++[p])=bO a
 | [],_,_=>rfl
 | [x],_,h=>by simp at h
 | x :: y :: t,p,h=>by
   have:=m7 t p (by simp only [jcz] at h;omega)
   simp only [jcq,bO,this]
theorem sU (l:List UInt8) (j:Nat) (hj:j % 2=0) (hle:j≤l.length) (h:¬ j+1 < l.length):bO (l.take j)=bO l:=by
 rcases (by omega:j=l.length∨l.length=j+1) with rfl|h1
 · rw [jcX (jcA _)]
 · have e:l=l.take j++[l[j]'(by omega)]:=by
    rw [← jdE (by omega),jcX (by omega)]
   rw [e,List.take_append_of_le_length (by simp;omega),List.take_take,Nat.min_self,m7 _ _ (by simp;omega)]
theorem qH (s:ByteArray) (j:Nat) (hj:j % 2=0) (h:j+1 < s.size):bO (s.data.toList.take (j+2))=bO (s.data.toList.take j)++[UInt8.ofNat (16 * dg s[j]+dg s[j+1])]:=by
 have e:s.data.toList.take (j+2)=s.data.toList.take j++[s[j],s[j+1]]:=by
  rw [jdE (by simp;omega),jdE (by simp;omega),jc0];rfl
 rw [e,iF _ _ _ (by simp;omega)]
end Go.Proofs.YtcllpknipmcolaaGreatDoor
namespace Go.Proofs.YtcllpknipmcolaaGreatDoor.Ab
open Go.RowKit
set_option linter.all false
open Classical in
noncomputable def prs (lo hi:Int) (s:ByteArray):Int × Bool:=if h:∃ n:Int,lo≤n∧n≤hi∧aC n=s then (h.choose,true) else (0,false)
theorem bh (n:Int):(aC n).data.toList=Lib.itoa n:=by simp [aC]
theorem tw {n m:Int} (h:aC n=aC m):n=m:=by
 have h1:=congrArg (fun s=>Lib.atoi s.data.toList) h
 simp only [bh,nN,jcV] at h1
 exact h1
theorem eQ {lo hi n:Int} {s:ByteArray} (h1:lo≤n) (h2:n≤hi) (h:aC n=s):prs lo hi s=(n,true):=by
 have hex:∃ n:Int,lo≤n∧n≤hi∧aC n=s:=⟨n,h1,h2,h⟩
 unfold prs
 rw [dif_pos hex]
 have:=hex.choose_spec
 rw [tw (this.2.2.trans h.symm)]
theorem fE {lo hi:Int} {s:ByteArray} (h:∀ n:Int,lo≤n→n≤hi→aC n ≠ s):prs lo hi s=(0,false):=dif_neg fun ⟨n,h1,h2,h3⟩=>h n h1 h2 h3
theorem pK {lo hi:Int} {s:ByteArray} (h1:lo≤0) (h2:0≤hi):lo≤(prs lo hi s).1∧(prs lo hi s).1≤hi:=by
 by_cases h:∃ n:Int,lo≤n∧n≤hi∧aC n=s
 · obtain ⟨n,h3,h4,h5⟩:=h
   rw [eQ h3 h4 h5]
   exact ⟨h3,h4⟩
 · rw [fE fun n h3 h4 h5=>h ⟨n,h3,h4,h5⟩]
   exact ⟨h1,h2⟩
theorem sR {lo hi:Int} {s:ByteArray} (h:(prs lo hi s).2=true):aC (prs lo hi s).1=s:=by
 by_cases hx:∃ n:Int,lo≤n∧n≤hi∧aC n=s
 · obtain ⟨n,h3,h4,h5⟩:=hx
   rw [eQ h3 h4 h5]
   exact h5
 · rw [fE fun n h3 h4 h5=>hx ⟨n,h3,h4,h5⟩] at h
   cases h
theorem kd (u:Nat):(Lib.decDigits u).head? ≠ some 45:=by
 intro h
 have hm:(45:UInt8) ∈ Lib.decDigits u:=List.mem_of_mem_head? h
 exact absurd (ci u _ hm) (by decide)
def tlB (l:List UInt8):List UInt8:=if l.head? = some 45 then l.drop 1 else l
theorem lq (m:Int):tlB (Lib.itoa m)=Lib.decDigits m.natAbs∧((Lib.itoa m).head? = some 45 ↔ m < 0):=by
 unfold Lib.itoa
 split
 · rename_i h
   exact ⟨rfl,fun _=>h,fun _=>rfl⟩
 · rename_i h
   refine ⟨?_,fun h2=>absurd h2 (kd _),fun h2=>absurd h2 h⟩
   unfold tlB
   rw [if_neg (kd _)]
   congr 1
   omega
theorem iP {k u:Nat} (h:u < 10 ^ (k+1)):(Lib.decDigits u).length≤k+1:=bz k u h
theorem mU {s:ByteArray} {n:Int} (N:Nat) (hN:N < 1000000000000) (hd:Lib.decFrom 0 (tlB s.data.toList)=some N) (hs:n=if s.data.toList.head? = some 45 then -(N:Int) else N) :
 prs (-999999999999) 999999999999 s=if aC n=s then (n,true) else (0,false):=by
 split
 · exact eQ (by split at hs <;> omega) (by split at hs <;> omega) ‹_›
 · rename_i hne
   refine fE fun m h1 h2 hm=>hne ?_
   obtain ⟨e1,e2⟩:=lq m
   have hl:s.data.toList=Lib.itoa m:=by rw [← hm,bh]
   rw [hl,e1,ke] at hd
   have hN' : m.natAbs=N:=jcn hd
   have:n=m:=by
    rw [hs,hl]
    split
    · rename_i h;have:=e2.1 h;omega
    · rename_i h;have:¬ m < 0:=fun h' => h (e2.2 h');omega
   rw [this]
   exact hm
theorem vj {s:ByteArray} (h:(tlB s.data.toList).length < 1∨(tlB s.data.toList).length > 12):prs (-999999999999) 999999999999 s=(0,false):=by
 refine fE fun m h1 h2 hm=>?_
 have hl:s.data.toList=Lib.itoa m:=by rw [← hm,bh]
 obtain ⟨e1,_⟩:=lq m
 rw [hl,e1] at h
 have:=iP (k:=11) (u:=m.natAbs) (by simp only [Nat.reduceAdd,Nat.reducePow];omega)
 have h0:0 < (Lib.decDigits m.natAbs).length:=List.length_pos_iff.2 (e9 _)
 omega
theorem vk {s:ByteArray} {i:Nat} {b:UInt8} (hb:(tlB s.data.toList)[i]? = some b) (h:b.toNat < 48∨57 < b.toNat) (lo hi:Int):prs lo hi s=(0,false):=by
 refine fE fun m h1 h2 hm=>?_
 have hl:s.data.toList=Lib.itoa m:=by rw [← hm,bh]
 obtain ⟨e1,_⟩:=lq m
 rw [hl,e1] at hb
 have:=ci m.natAbs b (jcE hb)
 omega
theorem ua {b:UInt8} (h1:48≤b.toNat) (h2:b.toNat≤57):Lib.digitVal b=some (b.toNat - 48):=by
 unfold Lib.digitVal
 rw [if_pos ⟨h1,h2⟩]
theorem sA {l:List UInt8} {i N:Nat} {b:UInt8} (hd:Lib.decFrom 0 (l.take i)=some N) (hb:l[i]? = some b) (h1:48≤b.toNat) (h2:b.toNat≤57) :
 Lib.decFrom 0 (l.take (i+1))=some (N * 10+(b.toNat - 48)):=Lib.decFrom_take l i 0 N b _ hd hb (ua h1 h2)
theorem qP {n:Int} {s:ByteArray} (h:18 < s.size) (h1:-999999999999≤n) (h2:n≤999999999999):aC n ≠ s:=by
 intro e
 have hl:(Lib.itoa n).length=s.size:=by rw [← bh,e,jcB];rfl
 have:=iP (k:=11) (u:=n.natAbs) (by simp only [Nat.reduceAdd,Nat.reducePow];omega)
 unfold Lib.itoa at hl
 split at hl
 · rw [jcz] at hl;omega
 · rw [show n.toNat=n.natAbs by omega] at hl;omega
def ah (s:ByteArray):List ByteArray:=(aF s.data.toList).map fun w=>⟨w.toArray⟩
theorem nP (w r:List UInt8) (h:∀ b ∈ w,b ≠ 32):aF (w++32 :: r)=w :: aF r:=by
 have:=cT w (32 :: r) h [] (aF r) (gd r)
 rw [this,jdI]
theorem mE (w:List UInt8) (h:∀ b ∈ w,b ≠ 32):aF w=[w]:=by
 have:=cT w [] h [] [] rfl
 simp only [jdI] at this
 exact this
theorem jI:∀ (k:Nat) (s:ByteArray),s.size≤k→Lib.splitB ⟨#[32]⟩ 0 (Lib.countB s ⟨#[32]⟩) s=ah s
 | k, s, hk=>by
   have one:Lib.indexB s ⟨#[32]⟩=Lib.indexByte s.data.toList 32:=Lib.one s ⟨#[32]⟩ rfl
   have ge:=Lib.indexByte_ge s.data.toList 32
   rcases (by omega:Lib.indexByte s.data.toList 32 = -1∨0≤Lib.indexByte s.data.toList 32) with h|h
   · rw [Lib.countB_miss _ _ (one.trans h),Lib.splitB_zero]
     have hn:∀ b ∈ s.data.toList,b ≠ 32:=fun b hb e=>by
      obtain ⟨i,hi⟩:=jdq hb
      exact Lib.indexByte_none h i (e ▸ hi)
     unfold ah
     rw [mE _ hn]
     rfl
   · obtain ⟨i,hi⟩:∃ i:Nat,Lib.indexByte s.data.toList 32=i:=⟨_,(Int.toNat_of_nonneg h).symm⟩
     obtain ⟨h1,h2⟩:=Lib.indexByte_some hi
     have hlt:i < s.data.toList.length:=(jcu.1 h1).1
     have hsz:s.data.toList.length=s.size:=by rw [jcB];rfl
     rw [Lib.countB_hit _ _ i (by decide) (one.trans hi),Nat.add_comm,Lib.splitB_hit _ _ _ _ i (one.trans hi)]
     have hl:s.data.toList=s.data.toList.take i++32 :: s.data.toList.drop (i+1):=by
      have h3:s.data.toList[i]=32:=(jcu.1 h1).2
      rw [← h3,List.getElem_cons_drop,List.take_append_drop]
     have hw:aF s.data.toList=s.data.toList.take i :: aF (s.data.toList.drop (i+1)):=by
      conv=>lhs;rw [hl]
      exact nP _ _ fun b hb e=>by
       obtain ⟨j,hj⟩:=jdq hb
       have hj1:=(jcu.1 hj).1
       rw [jcD] at hj1
       rw [List.getElem?_take_of_lt (by omega)] at hj
       exact h2 j (by omega) (e ▸ hj)
     have ih:=jI (k - 1) (s.extract (i+1) s.size) (by rw [jcJ];omega)
     have e1:(s.extract (i+1) s.size).data.toList=s.data.toList.drop (i+1):=by
      rw [jeb,jek]
      rw [jdR, ← hsz,jdd]
     have e0:s.extract 0 (i+0)=⟨(s.data.toList.take i).toArray⟩:=by
      apply jdG
      apply jdD
      rw [jeb,jek,jdR]
      simp
     show s.extract 0 (i+0) :: Lib.splitB ⟨#[32]⟩ 0 (Lib.countB (s.extract (i+1) s.size) ⟨#[32]⟩) (s.extract (i+1) s.size)=_
     rw [ih,e0]
     unfold ah
     rw [hw,e1]
     rfl
 termination_by k s=>s.size
 decreasing_by
  rw [jcJ]
  have:s.data.toList.length=s.size:=by rw [jcB];rfl
  omega
theorem jt:∀ (l:List UInt8), ∀ w ∈ aF l,w.length≤l.length
 | [],w,h=>by
   rw [aF] at h
   rw [jdb.1 h]
   exact jcA _
 | b :: r,w,h=>by
   have ih:=jt r
   rw [aF] at h
   split at h
   · rcases jcs.1 h with rfl|h
     · exact jcl _
     · have:=ih w h;rw [jcz];omega
   · split at h
     · rename_i x xs hx
       rcases jcs.1 h with rfl|h
       · have:=ih x (by rw [hx];exact jcP ..)
         rw [jcz,jcz];omega
       · have:=ih w (by rw [hx];exact jc3 _ h)
         rw [jcz];omega
     · rw [jdb.1 h,jcz,jcz]
       simp
theorem gh:∀ (l:List UInt8),(aF l).length≤l.length+1
 | []=>jcA _
 | b :: r=>by
   have ih:=gh r
   rw [aF]
   split
   · rw [jcz,jcz];omega
   · split
     · rename_i x xs hx
       rw [hx,jcz] at ih
       rw [jcz,jcz];omega
     · rw [jcz,jcz];simp
theorem fI {s x:ByteArray} (h:x ∈ ah s):x.size≤s.size:=by
 obtain ⟨w,hw,rfl⟩:=jc2.1 h
 have hs:s.data.toList.length=s.size:=by rw [jcB];rfl
 have:=jt _ w hw
 show w.toArray.size≤_
 rw [jcS];omega
theorem dN (s:ByteArray):(ah s).length≤s.size+1:=by
 have hs:s.data.toList.length=s.size:=by rw [jcB];rfl
 have:=gh s.data.toList
 unfold ah
 rw [jcw];omega
def decT (s:ByteArray):ByteArray × Bool:=(⟨(decR s.data.toList).1.toArray⟩,(decR s.data.toList).2)
theorem tW (s:ByteArray):encS s.data.toList=(encB s).data.toList:=by
 unfold encS encB
 by_cases h:s.data.toList=[]
 · rw [if_pos h,if_pos h]
 · rw [if_neg h,if_neg h]
theorem qI (l:List UInt8):bO (encS l)=l:=by
 unfold encS
 split
 · rename_i h;rw [h];rfl
 · exact eU l
theorem nI (t:ByteArray):decT (encB t)=(t,true):=by
 unfold decT decR
 rw [← tW,qI,if_pos rfl]
theorem ms (s:ByteArray):(decT s).1.size≤s.size:=by
 have hs:s.data.toList.length=s.size:=by rw [jcB];rfl
 show (decR s.data.toList).1.toArray.size≤_
 rw [jcS]
 unfold decR
 split
 · rw [eS];omega
 · exact jcl _
abbrev sArg (s:ByteArray):SV:=.val false [.s s]
abbrev iArg (n:Int):SV:=.val false [.i .i64 n]
noncomputable def prsR (lo hi:Int) (s:ByteArray):SV:=.tup [(false,[.i .i64 (prs lo hi s).1]),(false,[.b (prs lo hi s).2])]
noncomputable def wE:FSpec where
 pre args:=∃ s:ByteArray,args=[sArg s,iArg 12]
 res args:=match args with
  | [.val _ [.s s],_]=>prsR (-999999999999) 999999999999 s
  | _=>.none
noncomputable def rP (lo hi:Int):FSpec where
 pre args:=∃ s:ByteArray,s.size≤281474976710656∧args=[sArg s]
 res args:=match args with
  | [.val _ [.s s]]=>prsR lo hi s
  | _=>.none
noncomputable def yh:FSpec where
 pre args:=∃ (s:ByteArray) (lo hi:Int),s.size≤281474976710656 ∧ -999999999999≤lo∧hi≤999999999999∧args=[sArg s,iArg lo,iArg hi]
 res args:=match args with
  | [.val _ [.s s],.val _ [.i _ lo],.val _ [.i _ hi]]=>prsR lo hi s
  | _=>.none
def uZ:FSpec where
 pre args:=∃ s:ByteArray,s.size≤1048576∧args=[sArg s]
 res args:=match args with
  | [.val _ [.s s]]=>.tup [(false,[.s (decT s).1]),(false,[.b (decT s).2])]
  | _=>.none
def fS (o:Bool):FSpec where
 pre args:=∃ s:ByteArray,s.size≤1048576∧args=[sArg s,.val false [.i .u8 32]]
 res args:=match args with
  | [.val _ [.s s],_]=>.val false [.sl o 9 (ac (ah s))]
  | _=>.none
def px:FSpec where
 pre args:=∃ s:ByteArray,s.size≤1048576∧args=[sArg s,sArg ⟨#[32]⟩]
 res args:=match args with
  | [.val _ [.s s],_]=>.val false [.sl false 9 (ac (ah s))]
  | _=>.none
theorem resP {lo hi:Int} {s:ByteArray} {n:Int} {b:Bool} (h:prs lo hi s=(n,b)):[(false,[CV.i .i64 n]),(false,[CV.b b])]=[(false,[CV.i .i64 (prs lo hi s).1]),(false,[CV.b (prs lo hi s).2])]:=by rw [h]
theorem cl {s:ByteArray} {i:Nat} (h:i < s.size):s.data.toList[i]? = some (s.data.getD i 0):=by
 have hs:i < s.data.size:=h
 rw [jdn,Array.getD,dif_pos hs,jcW hs]
 rfl
theorem tJ {s:ByteArray} (h0:decide ((s.size:Int) > 0)=true) (h:(((s.data.getD (Int.toNat 0) 0).toNat:Int) == 45)=true):s.data.toList.head? = some 45:=by
 have h1:0 < s.size:=by have:=jck h0;omega
 rw [List.head?_eq_getElem?,cl h1]
 have:(s.data.getD 0 0).toNat=45:=by have h2:((s.data.getD 0 0).toNat:Int)=45:=eq_of_beq h;omega
 exact congrArg some (UInt8.toNat_inj.1 this)
theorem nq {s:ByteArray} (h0:decide ((s.size:Int) > 0)=true) (h:(((s.data.getD (Int.toNat 0) 0).toNat:Int) == 45)=false):s.data.toList.head? ≠ some 45:=by
 have h1:0 < s.size:=by have:=jck h0;omega
 rw [List.head?_eq_getElem?,cl h1]
 intro e
 have h2:((s.data.getD 0 0).toNat:Int)=45:=by rw [jcn e];rfl
 have h3:((s.data.getD 0 0).toNat:Int) ≠ 45:=by simpa using h
 exact h3 h2
theorem xX {s:ByteArray} (h:s.data.toList.head? = some 45):tlB s.data.toList=(s.extract (Int.toNat 1) (s.size:Int).toNat).data.toList:=by
 have hsz:s.data.toList.length=s.size:=by rw [jcB];rfl
 unfold tlB
 rw [if_pos h,jeb,jek,jdR,jcG, ← hsz,jdd]
 rfl
theorem jv {s:ByteArray} (h:s.data.toList.head? ≠ some 45):tlB s.data.toList=s.data.toList:=if_neg h
theorem xW {s t:ByteArray} (h:tlB s.data.toList=t.data.toList):(tlB s.data.toList).length=t.size:=by rw [h,jcB];rfl
def RI (t:ByteArray) (N i:Nat):Prop:=Lib.decFrom 0 (t.data.toList.take i)=some N∧N < 10 ^ i∧i≤t.size
theorem RI.zero (t:ByteArray):RI t 0 0:=⟨rfl,by decide,jcl _⟩
theorem RI.small {t:ByteArray} {N i:Nat} (h:RI t N i) (ht:t.size≤12):N < 1000000000000:=jdi h.2.1 (jcr (Nat.pow_le_pow_right (by decide) (jcr h.2.2 ht)) (by decide))
theorem RI.less {t:ByteArray} {N i:Nat} (h:RI t N i) (hi:i < t.size) (ht:t.size≤12):N < 100000000000:=jdi h.2.1 (jcr (Nat.pow_le_pow_right (by decide) (show i≤11 by omega)) (by decide))
theorem RI.next {t:ByteArray} {N i:Nat} (h:RI t N i) (hi:i < t.size) (h1:¬ (t.data.getD i 0).toNat < 48) (h2:¬ (t.data.getD i 0).toNat > 57):RI t (N * 10+((t.data.getD i 0).toNat - 48)) (i+1):=by
 refine ⟨sA h.1 (cl hi) (by omega) (by omega),?_,hi⟩
 have:=h.2.1
 rw [Nat.pow_succ]
 omega
theorem RI.all {t:ByteArray} {N i:Nat} (h:RI t N i) (hi:¬ i < t.size):Lib.decFrom 0 t.data.toList=some N:=by
 have hsz:t.data.toList.length=t.size:=by rw [jcB];rfl
 have:=h.1
 rw [jcX (by omega)] at this
 exact this
theorem RI.num {t:ByteArray} {N i:Nat} (h:RI t N i) (hi:i < t.size) (ht:t.size≤12) (h1:¬ (t.data.getD i 0).toNat < 48) (h2:¬ (t.data.getD i 0).toNat > 57) :
 IntKind.i64.wrap (IntKind.i64.wrap (10 * (N:Int))+IntKind.i64.wrap (IntKind.u8.wrap (((t.data.getD i 0).toNat:Int) - 48)))=((N * 10+((t.data.getD i 0).toNat - 48):Nat):Int):=by
 have hN:=h.less hi ht
 have e1:IntKind.u8.wrap (((t.data.getD i 0).toNat:Int) - 48)=((t.data.getD i 0).toNat:Int) - 48:=IntWalk.u8_in _ (by omega)
 have e2:IntKind.i64.wrap (((t.data.getD i 0).toNat:Int) - 48)=((t.data.getD i 0).toNat:Int) - 48:=IntWalk.i64_in _ (by omega)
 have e3:IntKind.i64.wrap (10 * (N:Int))=10 * (N:Int):=IntWalk.i64_in _ (by omega)
 rw [e1,e2,e3,IntWalk.i64_in _ (by omega)]
 omega
theorem cQ {s t:ByteArray} (h:tlB s.data.toList=t.data.toList) (hd:decide ((t.size:Int) < 1)=true∨decide ((t.size:Int) > 12)=true):prs (-999999999999) 999999999999 s=(0,false):=by
 refine vj ?_
 rw [xW h]
 rcases hd with h1|h1
 · have:=jck h1;omega
 · have:=jck h1;omega
theorem tI {s:ByteArray} (h0:decide ((s.size:Int) > 0)=false):s.data.toList.head? ≠ some 45:=by
 have h1:s.size=0:=by have:=jcv h0;omega
 have h2:s.data.toList=[]:=jcR.1 (by rw [jcB];exact h1)
 rw [h2]
 simp
theorem gB {s t:ByteArray} {i:Nat} (h:tlB s.data.toList=t.data.toList) (hi:i < t.size) (hd:decide (((t.data.getD (Int.toNat (i:Int)) 0).toNat:Int) < 48)=true∨decide (((t.data.getD (Int.toNat (i:Int)) 0).toNat:Int) > 57)=true) (lo hi' : Int):prs lo hi' s=(0,false):=by
 refine vk (i:=i) (b:=t.data.getD i 0) (by rw [h];exact cl hi) ?_ _ _
 rcases hd with h1|h1
 · exact .inl (by have:=jck h1;rw [jcG] at this;omega)
 · exact .inr (by have:=jck h1;rw [jcG] at this;omega)
theorem xl {t:ByteArray} {i:Nat} (h1:decide (((t.data.getD (Int.toNat (i:Int)) 0).toNat:Int) < 48)=false) (h2:decide (((t.data.getD (Int.toNat (i:Int)) 0).toNat:Int) > 57)=false) :
 ¬ (t.data.getD i 0).toNat < 48∧¬ (t.data.getD i 0).toNat > 57:=by
 have h3:=jcv h1
 have h4:=jcv h2
 rw [jcG] at h3 h4
 exact ⟨by omega,by omega⟩
theorem mV {s:ByteArray} {lo hi n n' : Int} (hn:n' = n) (hd:prs lo hi s=if aC n=s then (n,true) else (0,false)) (h:(!(aC n').toList == s.toList)=true):prs lo hi s=(0,false):=by
 subst hn
 rw [hd,if_neg]
 intro e
 rw [e] at h
 simp at h
theorem mW {s:ByteArray} {lo hi n n' : Int} (hn:n' = n) (hd:prs lo hi s=if aC n=s then (n,true) else (0,false)) (h:(!(aC n').toList == s.toList)=false):prs lo hi s=(n',true):=by
 subst hn
 rw [hd,if_pos]
 have h2:((aC n').toList == s.toList)=true:=by simpa using h
 exact (aZ _ _).mp (eq_of_beq h2)
theorem jaG {f:Int→Int→Snap} {r r' a b:Int} (h:r=r') (h2:a=b):f r a=f r' b:=by rw [h,h2]
abbrev wAt (rows:List (List D)) (k:Nat):ByteArray:=((rows.getD k []).getD 0 default).str
def SmW (rows:List (List D)):Prop:=∀ k,k < rows.length→(wAt rows k).size≤1048576
noncomputable def numS (rows:List (List D)) (k:Nat):Int:=if k < rows.length then (prs (-999999999999) 999999999999 (wAt rows k)).1 else 0
def txtS (rows:List (List D)) (k:Nat):ByteArray:=if k < rows.length then (decT (wAt rows k)).1 else ⟨#[]⟩
abbrev curS (rows:List (List D)) (k:Int):SV:=.tup [(true,[.sl true 9 rows,.i .i64 k])]
noncomputable def wx:FSpec where
 pre args:=∃ (rows:List (List D)) (k:Nat),k≤4611686018427387904∧SmW rows∧args=[curS rows k]
 bx:=true
 res args:=match args with
  | [.tup [(_,[.sl _ _ rows,.i _ k])]]=>iArg (numS rows k.toNat)
  | _=>.none
 upd args:=match args with
  | [.tup [(_,[.sl _ _ rows,.i _ k])]]=>[.sl true 9 rows,.i .i64 (k+1)]
  | _=>[]
def wu:FSpec where
 pre args:=∃ (rows:List (List D)) (k:Nat),k≤4611686018427387904∧SmW rows∧args=[curS rows k]
 bx:=true
 res args:=match args with
  | [.tup [(_,[.sl _ _ rows,.i _ k])]]=>sArg (txtS rows k.toNat)
  | _=>.none
 upd args:=match args with
  | [.tup [(_,[.sl _ _ rows,.i _ k])]]=>[.sl true 9 rows,.i .i64 (k+1)]
  | _=>[]
abbrev scn (rows:List (List D)) (b:Bool):SV:=.tup [(true,[.sl false 9 rows,.b b])]
def hdW (rows:List (List D)):ByteArray:=if rows.length=0 then ⟨#[]⟩ else wAt rows 0
def okW (rows:List (List D)) (b:Bool):Bool:=if rows.length=0 then false else b
noncomputable abbrev gJ (rows:List (List D)):Int × Bool:=prs (-1000000000) 1000000000 (hdW rows)
def rI:FSpec where
 pre args:=∃ (rows:List (List D)) (b:Bool),args=[scn rows b]
 bx:=true
 res args:=match args with
  | [.tup [(_,[.sl _ _ rows,.b b])]]=>sArg (hdW rows)
  | _=>.none
 upd args:=match args with
  | [.tup [(_,[.sl _ _ rows,.b b])]]=>[.sl false 9 (rows.drop 1),.b (okW rows b)]
  | _=>[]
noncomputable def wF:FSpec where
 pre args:=∃ (rows:List (List D)) (b:Bool),SmW rows∧args=[scn rows b]
 bx:=true
 res args:=match args with
  | [.tup [(_,[.sl _ _ rows,.b b])]]=>iArg (gJ rows).1
  | _=>.none
 upd args:=match args with
  | [.tup [(_,[.sl _ _ rows,.b b])]]=>[.sl false 9 (rows.drop 1),.b (okW rows b && (gJ rows).2)]
  | _=>[]
def wy:FSpec where
 pre args:=∃ (rows:List (List D)) (b:Bool),SmW rows∧args=[scn rows b]
 bx:=true
 res args:=match args with
  | [.tup [(_,[.sl _ _ rows,.b b])]]=>sArg (decT (hdW rows)).1
  | _=>.none
 upd args:=match args with
  | [.tup [(_,[.sl _ _ rows,.b b])]]=>[.sl false 9 (rows.drop 1),.b (okW rows b && (decT (hdW rows)).2)]
  | _=>[]
theorem mm {rows:List (List D)} (h:SmW rows):(hdW rows).size≤1048576:=by
 unfold hdW
 split
 · exact jcl _
 · exact h 0 (by omega)
theorem vp {rows:List (List D)} {k:Nat} (h:decide ((k:Int) < (rows.length:Int))=true):(prs (-999999999999) 999999999999 (wAt rows (Int.toNat (k:Int)))).1=numS rows (Int.toNat (k:Int)):=by
 have h1:=jck h
 unfold numS
 rw [jcG,if_pos (by omega)]
theorem yE {rows:List (List D)} {k:Nat} (h:decide ((k:Int) < (rows.length:Int))=false):0=numS rows (Int.toNat (k:Int)):=by
 have h1:=jcv h
 unfold numS
 rw [jcG,if_neg (by omega)]
theorem uN {rows:List (List D)} {k:Nat} (h:decide ((k:Int) < (rows.length:Int))=true):(decT (wAt rows (Int.toNat (k:Int)))).1=txtS rows (Int.toNat (k:Int)):=by
 have h1:=jck h
 unfold txtS
 rw [jcG,if_pos (by omega)]
theorem xQ {rows:List (List D)} {k:Nat} (h:decide ((k:Int) < (rows.length:Int))=false):⟨#[]⟩=txtS rows (Int.toNat (k:Int)):=by
 have h1:=jcv h
 unfold txtS
 rw [jcG,if_neg (by omega)]
theorem zb {rows:List (List D)} (h:((rows.length:Int) == 0)=false):wAt rows (Int.toNat 0)=hdW rows∧rows.length ≠ 0:=by
 have h1:(rows.length:Int) ≠ 0:=by simpa using h
 have h2:rows.length ≠ 0:=by omega
 exact ⟨by unfold hdW;rw [if_neg h2];rfl,h2⟩
theorem jbC {rows:List (List D)} (h:((rows.length:Int) == 0)=true):⟨#[]⟩=hdW rows∧rows.length=0:=by
 have h1:(rows.length:Int)=0:=eq_of_beq h
 have h2:rows.length=0:=by omega
 exact ⟨by unfold hdW;rw [if_pos h2],h2⟩
theorem updNo {rows:List (List D)} {b:Bool} (h:rows.length=0):[CV.sl false 9 rows,CV.b false]=[CV.sl false 9 (rows.drop 1),CV.b (okW rows b)]:=by
 have:rows=[]:=jcR.1 h
 subst this
 rfl
theorem zP {rows:List (List D)} {b:Bool} (h:rows.length ≠ 0):[CV.sl false 9 (List.drop (Int.toNat 1) (List.take ((rows.length:Int)).toNat rows)),CV.b b]=[CV.sl false 9 (rows.drop 1),CV.b (okW rows b)]:=by
 unfold okW
 rw [if_neg h,jcG,jdd]
 rfl
theorem updK {rows:List (List D)} {k:Nat} (hk:k≤4611686018427387904):[CV.sl true 9 rows,CV.i .i64 (IntKind.i64.wrap ((k:Int)+1))]=[CV.sl true 9 rows,CV.i .i64 ((k:Int)+1)]:=by
 rw [IntWalk.i64_in _ (by omega)]
theorem updB {rows:List (List D)} {x y:Bool} (h:x=y):[CV.sl false 9 rows,CV.b x]=[CV.sl false 9 rows,CV.b y]:=by rw [h]
def SpI (s:ByteArray) (o:List ByteArray) (fr i:Nat):Prop :=
 o.length≤i∧((i≤s.size∧fr≤i∧aF (s.data.toList.take i)=o.map (·.data.toList)++[(s.extract fr i).data.toList])∨(i=s.size+1∧o=ah s))
theorem ext_list (s:ByteArray) (a b:Nat):(s.extract a b).data.toList=(s.data.toList.take b).drop a:=by
 rw [jeb,jek,jdR]
theorem SpI.zero (s:ByteArray):SpI s [] 0 0:=⟨jcA _,.inl ⟨jcl _,jcA _,by rw [ext_list];rfl⟩⟩
theorem SpI.full {s:ByteArray} {o:List ByteArray} {fr i:Nat} (h:SpI s o fr i) (hi:i=s.size):SpI s (o++[s.extract fr i]) (i+1) (i+1):=by
 have hs:s.data.toList.length=s.size:=by rw [jcB];rfl
 obtain ⟨h0,⟨_,h2,h3⟩|⟨h2,_⟩⟩:=h
 · refine ⟨by rw [jcm,jdw];omega,.inr ⟨by omega,?_⟩⟩
   rw [jcX (by omega)] at h3
   unfold ah
   have e1:∀ x:ByteArray,(⟨x.data.toList.toArray⟩:ByteArray)=x:=fun x=>by simp
   rw [h3,jdB,jdJ]
   have e2:(o.map ((fun w:List UInt8=>(⟨w.toArray⟩:ByteArray)) ∘ fun x=>x.data.toList))=o:=by
    conv=>rhs;rw [← List.map_id o]
    exact jdP fun x _=>e1 x
   rw [e2,jeo,e1]
 · omega
theorem jy {s:ByteArray} {i:Nat} (hi:i < s.size):s.data.toList.take (i+1)=s.data.toList.take i++[s.data.getD i 0]:=by
 rw [jdj,cl hi];rfl
theorem SpI.space {s:ByteArray} {o:List ByteArray} {fr i:Nat} (h:SpI s o fr i) (hi:i < s.size) (hb:s.data.getD i 0=32):SpI s (o++[s.extract fr i]) (i+1) (i+1):=by
 obtain ⟨h0,⟨_,h2,h3⟩|⟨h2,_⟩⟩:=h
 · refine ⟨by rw [jcm,jdw];omega,.inl ⟨hi,jcA _,?_⟩⟩
   rw [jy hi,en _ _ _ _ h3,if_pos hb,jdB,ext_list s (i+1) (i+1),List.drop_of_length_le (by rw [jcD];omega)]
   rfl
 · omega
theorem SpI.miss {s:ByteArray} {o:List ByteArray} {fr i:Nat} (h:SpI s o fr i) (hi:i < s.size) (hb:s.data.getD i 0 ≠ 32):SpI s o fr (i+1):=by
 have hs:s.data.toList.length=s.size:=by rw [jcB];rfl
 obtain ⟨h0,⟨_,h2,h3⟩|⟨h2,_⟩⟩:=h
 · refine ⟨by omega,.inl ⟨hi,by omega,?_⟩⟩
   rw [jy hi,en _ _ _ _ h3,if_neg hb,ext_list,ext_list,jy hi,List.drop_append_of_le_length (by rw [jcD];omega)]
 · omega
theorem SpI.done {s:ByteArray} {o:List ByteArray} {fr i:Nat} (h:SpI s o fr i) (hi:¬ i≤s.size):o=ah s:=by
 obtain ⟨_,⟨h1,_⟩|⟨_,h3⟩⟩:=h
 · omega
 · exact h3
theorem SpI.le {s:ByteArray} {o:List ByteArray} {fr i:Nat} (h:SpI s o fr i) (hi:i≤s.size):fr≤i∧o.length≤i:=by
 obtain ⟨h0,⟨_,h2,_⟩|⟨h2,_⟩⟩:=h
 · exact ⟨h2,h0⟩
 · omega
theorem fK (o:List ByteArray) (x:ByteArray):ac o++([]++[[D.s x]])=ac (o++[x]):=by simp [ac]
theorem u5 {f:List (List D)→Int→Int→Snap} {r r' : List (List D)} {a a' b b' : Int} (h:r=r') (h2:a=a') (h3:b=b'):f r a b=f r' a' b' := by rw [h,h2,h3]
theorem byte_of {s:ByteArray} {i:Nat} {x:Bool} (h:(((s.data.getD (Int.toNat (i:Int)) 0).toNat:Int) == 32)=x):(x=true→s.data.getD i 0=32)∧(x=false→s.data.getD i 0 ≠ 32):=by
 rw [jcG] at h
 refine ⟨fun hx=>?_,fun hx e=>?_⟩
 · rw [hx] at h
   have h2:((s.data.getD i 0).toNat:Int)=32:=eq_of_beq h
   have h3:(s.data.getD i 0).toNat=32:=by omega
   exact UInt8.toNat_inj.1 h3
 · rw [hx,e] at h
   exact absurd h (by decide)
end Go.Proofs.YtcllpknipmcolaaGreatDoor.Ab
