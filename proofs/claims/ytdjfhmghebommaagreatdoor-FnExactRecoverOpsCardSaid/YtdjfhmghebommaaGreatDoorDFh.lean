/- A part. -/
import Derived.Test.YtdjfhmghebommaaGreatDoorDQa
import Derived.Lib.HexFns2
import Derived.Lib.SplitLaws
namespace Go.Proofs.YtdjfhmghebommaaGreatDoor.Ab
open Go.RowKit
set_option linter.all false
def intOf (r:List D):Int:=(r.getD 0 default).int
def jY (rows:List (List D)):Bool:=rows.all (fun r=>inR (intOf r) 0 60) && decide (rows.length=3)
def kh (a:List D):Bool:=(a.getD 4 default).int == 0 && ((a.getD 5 default).int == 0 && ((a.getD 6 default).int == 0 && ((a.getD 7 default).int == 0 && ((a.getD 8 default).int == 0 && ((a.getD 9 default).str.toList == (⟨#[]⟩:ByteArray).toList && ((a.getD 10 default).str.toList == (⟨#[]⟩:ByteArray).toList && (a.getD 11 default).int == 0))))))
def fY (a:List D):Bool:=(a.getD 12 default).str.toList == (⟨#[]⟩:ByteArray).toList && (a.getD 13 default).str.toList == (⟨#[]⟩:ByteArray).toList
def kg (a:List D):Bool:=(a.getD 14 default).int == 0 && ((a.getD 15 default).int == 0 && ((a.getD 16 default).rows.length:Int) == 0)
def okOp (a:List D):Bool:=inR (a.getD 0 default).int 1 300 && (inR (a.getD 1 default).int 0 2 && (jY (a.getD 3 default).rows && (inR (a.getD 2 default).int 1 3 &&
 (if (a.getD 2 default).int=1 then fY a && kg a else if (a.getD 2 default).int=2 then kh a && kg a else kh a && fY a))))
def vX:FSpec where
 pre args:=∃ rows:List (List D),args=[argS 3 rows]
 res args:=match args with
  | [.val _ [.sl _ _ rows]]=>.val false [.b (jY rows)]
  | _=>.none
def spOp (T:Tab) (cts:List CT):FSpec where
 pre args:=∃ a:List D,WfRow T cts a∧args=[argG cts a]
 res args:=match args with
  | [.val _ cs]=>.val false [.b (okOp (csD cs))]
  | _=>.none
theorem ij {p:List D→Bool} {rows:List (List D)} {i:Int} (h0:0≤i) (hi:i < rows.length) (h:(rows.take i.toNat).all p=true) (hp:p (rows.getD i.toNat [])=true):(rows.take (i+1).toNat).all p=true:=by
 have e:(i+1).toNat=i.toNat+1:=by omega
 rw [e,jcN,gG h0 hi,jdQ,h]
 simpa using hp
theorem ii {p:List D→Bool} {rows:List (List D)} {i:Int} (h0:0≤i) (hi:i < rows.length) (hp:p (rows.getD i.toNat [])=false):rows.all p=false:=by
 rw [List.all_eq_false]
 refine ⟨rows.getD i.toNat [],?_,by rw [hp];simp⟩
 exact jb8 (gG h0 hi)
theorem pg {p:List D→Bool} {rows:List (List D)} {i:Int} (h0:0≤i) (hi:i≤rows.length) (hn:decide (i < (rows.length:Int))=false) (h:(rows.take i.toNat).all p=true):rows.all p=true:=by
 have hn' : ¬ i < (rows.length:Int):=by simpa using hn
 have:i.toNat=rows.length:=by omega
 rwa [this,jcH] at h
theorem okOp_rowC {cts:List CT} {a:List D} (wa:WfRow T cts a):okOp (csD (rowC cts a))=okOp a:=by rw [au wa]
def bX (r:List D):Bool:=inR (intOf r) (-1000000000) 1000000000
abbrev numI (x:Int):List D:=[.i x]
abbrev numW (x:Int):List D:=[.s (aH x)]
abbrev encW (x:ByteArray):List D:=[.s (encB x)]
abbrev ints (a:List D) (js:List Nat):List (List D):=js.map fun j=>numI (a.getD j default).int
def bu (a:List D):List (List D):=ints a [0,1,2]++(a.getD 3 default).rows++ints a [4,5,6,7,8,11]
def eU (r:List D):List (List D):=ints r [0,1,2]
abbrev rds (a:List D):List (List D):=(a.getD 16 default).rows
def aG (a:List D) (i:Nat):List (List D):=bu a++ints a [14,15]++((rds a).take i).flatMap eU
def bO (r:List D):Bool:=((r.getD 4 default).int == 1 || (r.getD 4 default).int == 6) && okVal (sub r 4 7)
def bv (a:List D):Bool:=(rds a).all bO && ((aG a (rds a).length).all bX && okOp a)
def rowW (r:List D):List D:=numW (intOf r)
def bj (r:List D):List (List D):=[numW (r.getD 0 default).int,numW (r.getD 1 default).int,numW (r.getD 2 default).int,encW (r.getD 3 default).str,encW (bI (sub r 4 7))]
def dX (a:List D):List (List D):=(bu a).map rowW++[encW (a.getD 9 default).str,encW (a.getD 10 default).str,encW (a.getD 12 default).str,encW (a.getD 13 default).str]
def dW (a:List D):List (List D):=dX a++[numW (a.getD 14 default).int,numW (a.getD 15 default).int,numW ((rds a).length:Int)]
def aM (a:List D) (i:Nat):List (List D):=dW a++((rds a).take i).flatMap bj
def aZ (a:List D):ByteArray:=if bv a then bg (strsOf (aM a (rds a).length)) ⟨#[32]⟩ else ⟨#[]⟩
def SmO (a:List D):Prop:=(a.getD 3 default).rows.length≤1048576∧(rds a).length≤1048576∧((a.getD 9 default).str.size≤1048576∧(a.getD 10 default).str.size≤1048576∧(a.getD 12 default).str.size≤1048576∧(a.getD 13 default).str.size≤1048576) ∧
 ∀ i,i < (rds a).length→(((rds a).getD i []).getD 3 default).str.size≤1048576∧(((rds a).getD i []).getD 9 default).rows.length+(((rds a).getD i []).getD 10 default).rows.length≤2097152
theorem bT (a:List D):(bu a).length=(a.getD 3 default).rows.length+9:=by simp [bu,ints]
theorem gZ (f:List D→List (List D)) (k:Nat) (h:∀ r,(f r).length=k) (l:List (List D)):(l.flatMap f).length=k * l.length:=by
 induction l with
 | nil=>rfl
 | cons r l ih=>rw [jdI,jbQ,ih,h,jb3,Nat.mul_add,jdw,Nat.add_comm]
theorem kd {a:List D} {i:Nat} (hi:i≤(rds a).length):(aG a i).length=(a.getD 3 default).rows.length+11+3 * i:=by
 simp only [aG,jbQ,bT,gZ eU 3 (fun _=>rfl),jb7,ints,jb0,jb3,jcc,jc3 hi]
theorem aL (a:List D):(dX a).length=(a.getD 3 default).rows.length+13:=by simp [dX,bT]
theorem df (a:List D):(dW a).length=(a.getD 3 default).rows.length+16:=by simp [dW,aL]
theorem bH {a:List D} {i:Nat} (hi:i≤(rds a).length):(aM a i).length=(a.getD 3 default).rows.length+16+5 * i:=by
 simp only [aM,jbQ,df,gZ bj 5 (fun _=>rfl),jb7,jc3 hi]
theorem nC {f:List D→List (List D)} {rows:List (List D)} {i:Int} (h0:0≤i) (hi:i < rows.length):(rows.take (i+1).toNat).flatMap f=(rows.take i.toNat).flatMap f++f (rows.getD i.toNat []):=by
 have e:(i+1).toNat=i.toNat+1:=by omega
 rw [e,jcN,gG h0 hi,List.flatMap_append]
 simp
theorem mc {f:List D→List D} {rows:List (List D)} {i:Int} (h0:0≤i) (hi:i < rows.length):(rows.take (i+1).toNat).map f=(rows.take i.toNat).map f++[f (rows.getD i.toNat [])]:=by
 have e:(i+1).toNat=i.toNat+1:=by omega
 rw [e,jcN,gG h0 hi,jc5]
 simp
theorem gM {a:List D} {i:Int} (h0:0≤i) (hi:i < (rds a).length):aG a i.toNat++eU ((rds a).getD i.toNat [])=aG a (i+1).toNat:=by
 rw [aG,aG,nC h0 hi,jcu]
theorem fH {a:List D} {i:Int} (h0:0≤i) (hi:i < (rds a).length):aM a i.toNat++bj ((rds a).getD i.toNat [])=aM a (i+1).toNat:=by
 rw [aM,aM,nC h0 hi,jcu]
theorem bR:∀ (k u:Nat),u < 10 ^ (k+1)→(Lib.decDigits u).length≤k+1
 | 0,u,h=>by
   rw [Lib.decDigits,dif_pos (by simpa using h)]
   simp
 | k+1,u,h=>by
   rw [Lib.decDigits]
   split
   · simp
   · have:=bR k (u / 10) (by rw [Nat.div_lt_iff_lt_mul (by decide)];rw [Nat.pow_succ] at h;exact h)
     rw [jbQ,jc0]
     omega
theorem f9 {n:Int} (h:inR n (-1000000000) 1000000000=true):(aH n).size≤11:=by
 simp only [inR,jb1,decide_eq_true_eq] at h
 show (Lib.itoa n).toArray.size≤_
 rw [jcm]
 unfold Lib.itoa
 split
 · have:=bR 9 n.natAbs (by simp only [Nat.reduceAdd,Nat.reducePow];omega)
   rw [jb3]
   omega
 · have:=bR 9 n.toNat (by simp only [Nat.reduceAdd,Nat.reducePow];omega)
   omega
theorem iZ (sep:List UInt8) (M:Nat):∀ (xs:List (List UInt8)),(∀ x ∈ xs,x.length≤M)→(Lib.joinTail sep xs).length≤xs.length * (M+sep.length)
 | [],_=>jbP _
 | x :: xs,h=>by
   have ih:=iZ sep M xs (fun y hy=>h y (jcx _ hy))
   have hx:=h x (jcj ..)
   have:Lib.joinTail sep (x :: xs)=sep++x++Lib.joinTail sep xs:=by simp [Lib.joinTail]
   rw [this,jbQ,jbQ,jb3,jds,Nat.one_mul]
   omega
theorem ks {xs:List ByteArray} {sep:ByteArray} {M:Nat} (h:∀ x ∈ xs,x.size≤M):(bg xs sep).size≤xs.length * (M+sep.size):=by
 show (Lib.join (xs.map (·.data.toList)) sep.data.toList).toArray.size≤_
 rw [jcm]
 have hs:sep.data.toList.length=sep.size:=by rw [jb5];rfl
 cases xs with
 | nil=>exact jbP _
 | cons x xs =>
   have hx:x.data.toList.length≤M:=by rw [jb5];exact h x (jcj ..)
   have:=iZ sep.data.toList M (xs.map (·.data.toList)) (fun y hy=>by
    obtain ⟨z,hz,rfl⟩:=jcw.1 hy
    rw [jb5];exact h z (jcx _ hz))
   rw [hs,jb0] at this
   have hj:Lib.join ((x :: xs).map (·.data.toList)) sep.data.toList=x.data.toList++Lib.joinTail sep.data.toList (xs.map (·.data.toList)):=Lib.join_cons _ _ _
   rw [hj,jbQ,jb3,jds,Nat.one_mul]
   omega
def zb (M:Nat) (r:List D):Prop:=(r.getD 0 default).str.size≤M
theorem gc {a:List D} (h:okVal a=true) (hk:(a.getD 0 default).int=1∨(a.getD 0 default).int=6):(bI a).size≤15:=by
 rcases hk with h1|h6
 · rw [mn h1]
   simp only [okVal,h1,if_true,jb1] at h
   have hn:inR (a.getD 1 default).int (-1000000000) 1000000000=true:=by simp_all
   have:=f9 hn
   omega
 · rw [mo h6,jb9]
   have:=dM (a.getD 1 default).int
   show 6+_≤_
   omega
theorem cy {r:List D} (h:bO r=true):((sub r 4 7).getD 0 default).int=1∨((sub r 4 7).getD 0 default).int=6:=by
 simp only [bO,jb1,jdg,beq_iff_eq] at h
 exact h.1
theorem dK {r:List D} (h:bO r=true):okVal (sub r 4 7)=true:=by
 simp only [bO,jb1] at h
 exact h.2
theorem fX {a:List D} (hs:SmO a) (hg:bv a=true):(bg (strsOf (aM a (rds a).length)) ⟨#[32]⟩).size≤140737488355328:=by
 have hl:(strsOf (aM a (rds a).length)).length=(a.getD 3 default).rows.length+16+5 * (rds a).length:=by rw [strsOf,jb0,bH (jb4 _)]
 simp only [bv,jb1] at hg
 have hw:∀ r ∈ aM a (rds a).length,zb 2097153 r:=by
  have nums:∀ r ∈ aG a (rds a).length,(aH (intOf r)).size≤2097153:=fun r hr=>jbV (f9 (jcb.1 hg.2.1 r hr)) (by decide)
  have enc:∀ s:ByteArray,s.size≤1048576→(encB s).size≤2097153:=fun s h=>by have:=tY s;omega
  have n14:(aH (a.getD 14 default).int).size≤2097153:=nums (numI (a.getD 14 default).int) (by simp [aG,ints])
  have n15:(aH (a.getD 15 default).int).size≤2097153:=nums (numI (a.getD 15 default).int) (by simp [aG,ints])
  have nl:(aH ((rds a).length:Int)).size≤2097153:=jbV (f9 (by have:=hs.2.1;simp only [inR,jb1,decide_eq_true_eq];omega)) (by decide)
  intro r hr
  unfold aM dW dX at hr
  rcases jco.1 hr with hr|hr
  · rcases jco.1 hr with hr|hr
    · rcases jco.1 hr with hr|hr
      · obtain ⟨x,hx,rfl⟩:=jcw.1 hr
        exact nums x (by unfold aG;exact jdv _ (jdv _ hx))
      · simp only [jbW,jbS,or_false] at hr
        rcases hr with rfl|rfl|rfl|rfl
        · exact enc _ hs.2.2.1.1
        · exact enc _ hs.2.2.1.2.1
        · exact enc _ hs.2.2.1.2.2.1
        · exact enc _ hs.2.2.1.2.2.2
    · simp only [jbW,jbS,or_false] at hr
      rcases hr with rfl|rfl|rfl
      · exact n14
      · exact n15
      · exact nl
  · rw [jcH] at hr
    obtain ⟨x,hx,hr⟩:=jdo.1 hr
    have hgx:=jcb.1 hg.1 x hx
    obtain ⟨i,hi,he⟩:=jdu.1 hx
    have hb:=hs.2.2.2 i hi
    rw [show (rds a).getD i []=x by rw [jbT,jbN hi,he];rfl] at hb
    have hin:∀ j,j=0∨j=1∨j=2→(aH (x.getD j default).int).size≤2097153:=fun j hj=>nums (numI (x.getD j default).int) (by
     unfold aG
     refine List.mem_append_right _ ?_
     rw [jcH]
     refine jdo.2 ⟨x,hx,?_⟩
     rcases hj with rfl|rfl|rfl <;> simp [eU,ints])
    simp only [bj,jbW,jbS,or_false] at hr
    rcases hr with rfl|rfl|rfl|rfl|rfl
    · exact hin 0 (.inl rfl)
    · exact hin 1 (.inr (.inl rfl))
    · exact hin 2 (.inr (.inr rfl))
    · exact enc _ hb.1
    · exact enc _ (jbV (gc (dK hgx) (cy hgx)) (by decide))
 have:=ks (xs:=strsOf (aM a (rds a).length)) (sep:=⟨#[32]⟩) (M:=2097153) (fun x hx=>by
  obtain ⟨r,hr,rfl⟩:=jcw.1 hx
  exact hw r hr)
 have h1:=hs.1
 have h2:=hs.2.1
 rw [hl] at this
 refine jbV this (jbV (Nat.mul_le_mul (show _≤1048576+16+5 * 1048576 by omega) (jb4 _)) (by decide))
theorem jw {p:List D→Bool} {xs ys:List (List D)}:(!(xs.all p) || !(ys.all p))=!((xs++ys).all p):=by rw [jdQ,Bool.not_and]
def iD (a:List D) (i:Nat):Bool:=!((aG a i).all bX)
theorem qU {a:List D} (h:(rds a).length≤1048576):(!((bu a).all bX) || !(([numI (a.getD 14 default).int,numI (a.getD 15 default).int,numI ((rds a).length:Int)]:List (List D)).all bX))=iD a 0:=by
 have hn:bX (numI ((rds a).length:Int))=true:=by
  show inR ((rds a).length:Int) (-1000000000) 1000000000=true
  simp only [inR,jb1,decide_eq_true_eq]
  omega
 rw [jw,iD,aG,List.take_zero,List.flatMap_nil,jdc,jdQ,jdQ]
 simp only [jdA,List.all_nil,hn,ints,jcV,List.map_nil,jcy]
theorem qV {a:List D} {i:Int} (h0:0≤i) (hi:i < (rds a).length):(iD a i.toNat || !((eU ((rds a).getD i.toNat [])).all bX))=iD a (i+1).toNat:=by
 rw [iD,jw,gM h0 hi]
 rfl
theorem oH (a:List D):dX a=(ints a [0,1,2]).map rowW++(a.getD 3 default).rows.map rowW++(ints a [4,5,6,7,8,11]).map rowW++[encW (a.getD 9 default).str,encW (a.getD 10 default).str,encW (a.getD 12 default).str,encW (a.getD 13 default).str]:=by
 rw [dX,bu,jc5,jc5]
theorem txt4 {a b c d:ByteArray} {M:Nat} (ha:a.size≤M) (hb:b.size≤M) (hc:c.size≤M) (hd:d.size≤M):∀ i,i < ([[.s a],[.s b],[.s c],[.s d]]:List (List D)).length→((([[.s a],[.s b],[.s c],[.s d]]:List (List D)).getD i []).getD 0 default).str.size≤M
 | 0,_=>ha
 | 1,_=>hb
 | 2,_=>hc
 | 3,_=>hd
 | i+4,h=>absurd h (by simp)
theorem txt2 {a b:ByteArray} {M:Nat} (ha:a.size≤M) (hb:b.size≤M):∀ i,i < ([[.s a],[.s b]]:List (List D)).length→((([[.s a],[.s b]]:List (List D)).getD i []).getD 0 default).str.size≤M
 | 0,_=>ha
 | 1,_=>hb
 | i+2,h=>absurd h (by simp)
def rX (T:Tab) (cts:List CT):FSpec where
 pre args:=∃ a:List D,WfRow T cts a∧SmO a∧args=[argG cts a]
 res args:=match args with
  | [.val _ cs]=>.val false [.sl true 3 (bu (csD cs))]
  | _=>.none
def v6 (T:Tab) (cts:List CT):FSpec where
 pre args:=∃ a:List D,WfRow T cts a∧SmO a∧args=[argG cts a]
 res args:=match args with
  | [.val _ cs]=>.val false [.b (bv (csD cs))]
  | _=>.none
def rW (T:Tab) (cts:List CT):FSpec where
 pre args:=∃ a:List D,WfRow T cts a∧SmO a∧args=[argG cts a]
 res args:=match args with
  | [.val _ cs]=>.val false [.s (aZ (csD cs))]
  | _=>.none
def vV (e:TypeId):FSpec where
 pre args:=∃ (ws nums:List (List D)) (b:Bool),(ws.length+nums.length) * 16≤140737488355328∧args=[.tup [(true,[.sl true e ws,.b b])],argS 3 nums]
 bx:=true
 res _:=.tup []
 upd args:=match args with
  | [.tup [(_,[.sl _ e ws,.b b])],.val _ [.sl _ _ nums]]=>[.sl true e (ws++nums.map rowW),.b (b || !nums.all bX)]
  | _=>[]
def rowE (r:List D):List D:=encW (r.getD 0 default).str
def rQ (e:TypeId):FSpec where
 pre args:=∃ (ws txts:List (List D)) (b:Bool),(ws.length+txts.length) * 16≤140737488355328∧(∀ i,i < txts.length→((txts.getD i []).getD 0 default).str.size≤70368744177664)∧args=[.tup [(true,[.sl true e ws,.b b])],argS 9 txts]
 bx:=true
 res _:=.tup []
 upd args:=match args with
  | [.tup [(_,[.sl _ e ws,.b b])],.val _ [.sl _ _ txts]]=>[.sl true e (ws++txts.map rowE),.b b]
  | _=>[]
end Go.Proofs.YtdjfhmghebommaaGreatDoor.Ab
namespace Go.Proofs.YtdjfhmghebommaaGreatDoor
open Go.Lib
def dg (c:UInt8):Nat:=if 48≤c.toNat∧c.toNat≤57 then c.toNat - 48 else if 97≤c.toNat∧c.toNat≤102 then c.toNat - 97+10 else 0
theorem vz (c:UInt8):dg c≤15:=by unfold dg;split <;> (try split) <;> omega
def bL:List UInt8→List UInt8
 | p :: q :: t=>UInt8.ofNat (16 * dg p+dg q) :: bL t
 | _=>[]
def encS (l:List UInt8):List UInt8:=if l=[] then [45] else Hx.encode l
def decR (l:List UInt8):List UInt8 × Bool:=if encS (bL l)=l then (bL l,true) else ([],false)
def isOk:Hx.Out→Bool
 | .ok=>true
 | _=>false
def decI (l:List UInt8):List UInt8 × Bool :=
 if l=[45] then ([],true) else if isOk (Hx.decode l).2=true∧encS (Hx.decode l).1=l then ((Hx.decode l).1,true) else ([],false)
theorem qk (n:Nat) (h:n < 16):dg (Hx.digit n)=n:=by
 have:∀ n:Fin 16,dg (Hx.digit n.val)=n.val:=by decide
 exact this ⟨n,h⟩
set_option maxRecDepth 100000 in
theorem v_digit (n:Nat) (h:n < 16):Hx.v (Hx.digit n)=n:=by
 have:∀ n:Fin 16,Hx.v (Hx.digit n.val)=n.val:=by decide
 exact this ⟨n,h⟩
theorem kH (b:UInt8):UInt8.ofNat (16 * (b.toNat / 16)+b.toNat % 16)=b:=by
 rw [show 16 * (b.toNat / 16)+b.toNat % 16=b.toNat by omega];simp
theorem eX:∀ l:List UInt8,bL (Hx.encode l)=l
 | []=>rfl
 | b :: t=>by
   have hb:=b.toNat_lt
   rw [Hx.encode_cons,bL,qk _ (by omega),qk _ (by omega),kH,eX t]
theorem decode_encode:∀ l:List UInt8,Hx.decode (Hx.encode l)=(l,.ok)
 | []=>Hx.decode_nil
 | b :: t=>by
   have hb:=b.toNat_lt
   rw [Hx.encode_cons,Hx.decode_two,v_digit _ (by omega),v_digit _ (by omega),if_neg (by omega),if_neg (by omega),decode_encode t,
    show b.toNat / 16 * 16+b.toNat % 16=16 * (b.toNat / 16)+b.toNat % 16 by omega,kH]
theorem tW {l m:List UInt8} (h:encS m=l) (hl:l ≠ [45]):m ≠ []∧Hx.encode m=l:=by
 unfold encS at h
 split at h
 · exact absurd h.symm hl
 · exact ⟨by assumption,h⟩
theorem vB (l:List UInt8):decI l=decR l:=by
 unfold decI decR
 by_cases hl:l=[45]
 · subst hl;rfl
 · rw [if_neg hl]
   by_cases h:encS (bL l)=l
   · obtain ⟨hm,he⟩:=tW h hl
     have hd:Hx.decode l=(bL l,.ok):=by rw [← he,decode_encode,he]
     rw [if_pos h,hd,if_pos ⟨rfl,h⟩]
   · rw [if_neg h,if_neg]
     rintro ⟨_,h2⟩
     obtain ⟨hm,he⟩:=tW h2 hl
     have hp:bL l=(Hx.decode l).1:=by rw [← he,eX,he]
     exact h (by rw [hp];exact h2)
theorem eW:∀ l:List UInt8,(bL l).length=l.length / 2
 | []=>rfl
 | [_]=>by simp [bL]
 | _ :: _ :: t=>by
   have:=eW t
   simp only [bL,jb3]
   omega
theorem iU:∀ (a:List UInt8) (p q:UInt8),a.length % 2=0→bL (a++[p,q])=bL a++[UInt8.ofNat (16 * dg p+dg q)]
 | [],_,_,_=>rfl
 | [x],_,_,h=>by simp at h
 | x :: y :: t,p,q,h=>by
   have:=iU t p q (by simp only [jb3] at h;omega)
   simp only [jbU,bL,this]
theorem na:∀ (a:List UInt8) (p:UInt8),a.length % 2=0→bL (a++[p])=bL a
 | [],_,_=>rfl
 | [x],_,h=>by simp at h
 | x :: y :: t,p,h=>by
   have:=na t p (by simp only [jb3] at h;omega)
   simp only [jbU,bL,this]
theorem s5 (l:List UInt8) (j:Nat) (hj:j % 2=0) (hle:j≤l.length) (h:¬ j+1 < l.length):bL (l.take j)=bL l:=by
 rcases (by omega:j=l.length∨l.length=j+1) with rfl|h1
 · rw [jcr (jb4 _)]
 · have e:l=l.take j++[l[j]'(by omega)]:=by
    rw [← jc8 (by omega),jcr (by omega)]
   rw [e,List.take_append_of_le_length (by simp;omega),List.take_take,Nat.min_self,na _ _ (by simp;omega)]
theorem qQ (s:ByteArray) (j:Nat) (hj:j % 2=0) (h:j+1 < s.size):bL (s.data.toList.take (j+2))=bL (s.data.toList.take j)++[UInt8.ofNat (16 * dg s[j]+dg s[j+1])]:=by
 have e:s.data.toList.take (j+2)=s.data.toList.take j++[s[j],s[j+1]]:=by
  rw [jc8 (by simp;omega),jc8 (by simp;omega),jcu];rfl
 rw [e,iU _ _ _ (by simp;omega)]
end Go.Proofs.YtdjfhmghebommaaGreatDoor
namespace Go.Proofs.YtdjfhmghebommaaGreatDoor.Ab
open Go.RowKit
set_option linter.all false
open Classical in
noncomputable def prs (lo hi:Int) (s:ByteArray):Int × Bool:=if h:∃ n:Int,lo≤n∧n≤hi∧aH n=s then (h.choose,true) else (0,false)
theorem bn (n:Int):(aH n).data.toList=Lib.itoa n:=by simp [aH]
theorem tB {n m:Int} (h:aH n=aH m):n=m:=by
 have h1:=congrArg (fun s=>Lib.atoi s.data.toList) h
 simp only [bn,nT,jcp] at h1
 exact h1
theorem eV {lo hi n:Int} {s:ByteArray} (h1:lo≤n) (h2:n≤hi) (h:aH n=s):prs lo hi s=(n,true):=by
 have hex:∃ n:Int,lo≤n∧n≤hi∧aH n=s:=⟨n,h1,h2,h⟩
 unfold prs
 rw [dif_pos hex]
 have:=hex.choose_spec
 rw [tB (this.2.2.trans h.symm)]
theorem fG {lo hi:Int} {s:ByteArray} (h:∀ n:Int,lo≤n→n≤hi→aH n ≠ s):prs lo hi s=(0,false):=dif_neg fun ⟨n,h1,h2,h3⟩=>h n h1 h2 h3
theorem pT {lo hi:Int} {s:ByteArray} (h1:lo≤0) (h2:0≤hi):lo≤(prs lo hi s).1∧(prs lo hi s).1≤hi:=by
 by_cases h:∃ n:Int,lo≤n∧n≤hi∧aH n=s
 · obtain ⟨n,h3,h4,h5⟩:=h
   rw [eV h3 h4 h5]
   exact ⟨h3,h4⟩
 · rw [fG fun n h3 h4 h5=>h ⟨n,h3,h4,h5⟩]
   exact ⟨h1,h2⟩
theorem sY {lo hi:Int} {s:ByteArray} (h:(prs lo hi s).2=true):aH (prs lo hi s).1=s:=by
 by_cases hx:∃ n:Int,lo≤n∧n≤hi∧aH n=s
 · obtain ⟨n,h3,h4,h5⟩:=hx
   rw [eV h3 h4 h5]
   exact h5
 · rw [fG fun n h3 h4 h5=>hx ⟨n,h3,h4,h5⟩] at h
   cases h
theorem ky (u:Nat):(Lib.decDigits u).head? ≠ some 45:=by
 intro h
 have hm:(45:UInt8) ∈ Lib.decDigits u:=List.mem_of_mem_head? h
 exact absurd (cW u _ hm) (by decide)
def tlB (l:List UInt8):List UInt8:=if l.head? = some 45 then l.drop 1 else l
theorem lE (m:Int):tlB (Lib.itoa m)=Lib.decDigits m.natAbs∧((Lib.itoa m).head? = some 45 ↔ m < 0):=by
 unfold Lib.itoa
 split
 · rename_i h
   exact ⟨rfl,fun _=>h,fun _=>rfl⟩
 · rename_i h
   refine ⟨?_,fun h2=>absurd h2 (ky _),fun h2=>absurd h2 h⟩
   unfold tlB
   rw [if_neg (ky _)]
   congr 1
   omega
theorem i8 {k u:Nat} (h:u < 10 ^ (k+1)):(Lib.decDigits u).length≤k+1:=bR k u h
theorem mX {s:ByteArray} {n:Int} (N:Nat) (hN:N < 1000000000000) (hd:Lib.decFrom 0 (tlB s.data.toList)=some N) (hs:n=if s.data.toList.head? = some 45 then -(N:Int) else N) :
 prs (-999999999999) 999999999999 s=if aH n=s then (n,true) else (0,false):=by
 split
 · exact eV (by split at hs <;> omega) (by split at hs <;> omega) ‹_›
 · rename_i hne
   refine fG fun m h1 h2 hm=>hne ?_
   obtain ⟨e1,e2⟩:=lE m
   have hl:s.data.toList=Lib.itoa m:=by rw [← hm,bn]
   rw [hl,e1,kA] at hd
   have hN' : m.natAbs=N:=jbR hd
   have:n=m:=by
    rw [hs,hl]
    split
    · rename_i h;have:=e2.1 h;omega
    · rename_i h;have:¬ m < 0:=fun h' => h (e2.2 h');omega
   rw [this]
   exact hm
theorem vd {s:ByteArray} (h:(tlB s.data.toList).length < 1∨(tlB s.data.toList).length > 12):prs (-999999999999) 999999999999 s=(0,false):=by
 refine fG fun m h1 h2 hm=>?_
 have hl:s.data.toList=Lib.itoa m:=by rw [← hm,bn]
 obtain ⟨e1,_⟩:=lE m
 rw [hl,e1] at h
 have:=i8 (k:=11) (u:=m.natAbs) (by simp only [Nat.reduceAdd,Nat.reducePow];omega)
 have h0:0 < (Lib.decDigits m.natAbs).length:=List.length_pos_iff.2 (fe _)
 omega
theorem vf {s:ByteArray} {i:Nat} {b:UInt8} (hb:(tlB s.data.toList)[i]? = some b) (h:b.toNat < 48∨57 < b.toNat) (lo hi:Int):prs lo hi s=(0,false):=by
 refine fG fun m h1 h2 hm=>?_
 have hl:s.data.toList=Lib.itoa m:=by rw [← hm,bn]
 obtain ⟨e1,_⟩:=lE m
 rw [hl,e1] at hb
 have:=cW m.natAbs b (jb8 hb)
 omega
theorem ue {b:UInt8} (h1:48≤b.toNat) (h2:b.toNat≤57):Lib.digitVal b=some (b.toNat - 48):=by
 unfold Lib.digitVal
 rw [if_pos ⟨h1,h2⟩]
theorem sK {l:List UInt8} {i N:Nat} {b:UInt8} (hd:Lib.decFrom 0 (l.take i)=some N) (hb:l[i]? = some b) (h1:48≤b.toNat) (h2:b.toNat≤57) :
 Lib.decFrom 0 (l.take (i+1))=some (N * 10+(b.toNat - 48)):=Lib.decFrom_take l i 0 N b _ hd hb (ue h1 h2)
theorem qX {n:Int} {s:ByteArray} (h:18 < s.size) (h1:-999999999999≤n) (h2:n≤999999999999):aH n ≠ s:=by
 intro e
 have hl:(Lib.itoa n).length=s.size:=by rw [← bn,e,jb5];rfl
 have:=i8 (k:=11) (u:=n.natAbs) (by simp only [Nat.reduceAdd,Nat.reducePow];omega)
 unfold Lib.itoa at hl
 split at hl
 · rw [jb3] at hl;omega
 · rw [show n.toNat=n.natAbs by omega] at hl;omega
def aj (s:ByteArray):List ByteArray:=(az s.data.toList).map fun w=>⟨w.toArray⟩
theorem nX (w r:List UInt8) (h:∀ b ∈ w,b ≠ 32):az (w++32 :: r)=w :: az r:=by
 have:=cX w (32 :: r) h [] (az r) (gm r)
 rw [this,jdc]
theorem mH (w:List UInt8) (h:∀ b ∈ w,b ≠ 32):az w=[w]:=by
 have:=cX w [] h [] [] rfl
 simp only [jdc] at this
 exact this
theorem fS:∀ (k:Nat) (s:ByteArray),s.size≤k→Lib.splitB ⟨#[32]⟩ 0 (Lib.countB s ⟨#[32]⟩) s=aj s
 | k, s, hk=>by
   have one:Lib.indexB s ⟨#[32]⟩=Lib.indexByte s.data.toList 32:=Lib.one s ⟨#[32]⟩ rfl
   have ge:=Lib.indexByte_ge s.data.toList 32
   rcases (by omega:Lib.indexByte s.data.toList 32 = -1∨0≤Lib.indexByte s.data.toList 32) with h|h
   · rw [Lib.countB_miss _ _ (one.trans h),Lib.splitB_zero]
     have hn:∀ b ∈ s.data.toList,b ≠ 32:=fun b hb e=>by
      obtain ⟨i,hi⟩:=jcU hb
      exact Lib.indexByte_none h i (e ▸ hi)
     unfold aj
     rw [mH _ hn]
     rfl
   · obtain ⟨i,hi⟩:∃ i:Nat,Lib.indexByte s.data.toList 32=i:=⟨_,(Int.toNat_of_nonneg h).symm⟩
     obtain ⟨h1,h2⟩:=Lib.indexByte_some hi
     have hlt:i < s.data.toList.length:=(jbY.1 h1).1
     have hsz:s.data.toList.length=s.size:=by rw [jb5];rfl
     rw [Lib.countB_hit _ _ i (by decide) (one.trans hi),Nat.add_comm,Lib.splitB_hit _ _ _ _ i (one.trans hi)]
     have hl:s.data.toList=s.data.toList.take i++32 :: s.data.toList.drop (i+1):=by
      have h3:s.data.toList[i]=32:=(jbY.1 h1).2
      rw [← h3,List.getElem_cons_drop,List.take_append_drop]
     have hw:az s.data.toList=s.data.toList.take i :: az (s.data.toList.drop (i+1)):=by
      conv=>lhs;rw [hl]
      exact nX _ _ fun b hb e=>by
       obtain ⟨j,hj⟩:=jcU hb
       have hj1:=(jbY.1 hj).1
       rw [jb7] at hj1
       rw [List.getElem?_take_of_lt (by omega)] at hj
       exact h2 j (by omega) (e ▸ hj)
     have ih:=fS (k - 1) (s.extract (i+1) s.size) (by rw [jcd];omega)
     have e1:(s.extract (i+1) s.size).data.toList=s.data.toList.drop (i+1):=by
      rw [jdF,jdO]
      rw [jdl, ← hsz,jcH]
     have e0:s.extract 0 (i+0)=⟨(s.data.toList.take i).toArray⟩:=by
      apply jda
      apply jc7
      rw [jdF,jdO,jdl]
      simp
     show s.extract 0 (i+0) :: Lib.splitB ⟨#[32]⟩ 0 (Lib.countB (s.extract (i+1) s.size) ⟨#[32]⟩) (s.extract (i+1) s.size)=_
     rw [ih,e0]
     unfold aj
     rw [hw,e1]
     rfl
 termination_by k s=>s.size
 decreasing_by
  rw [jcd]
  have:s.data.toList.length=s.size:=by rw [jb5];rfl
  omega
theorem jF:∀ (l:List UInt8), ∀ w ∈ az l,w.length≤l.length
 | [],w,h=>by
   rw [az] at h
   rw [jcF.1 h]
   exact jb4 _
 | b :: r,w,h=>by
   have ih:=jF r
   rw [az] at h
   split at h
   · rcases jbW.1 h with rfl|h
     · exact jbP _
     · have:=ih w h;rw [jb3];omega
   · split at h
     · rename_i x xs hx
       rcases jbW.1 h with rfl|h
       · have:=ih x (by rw [hx];exact jcj ..)
         rw [jb3,jb3];omega
       · have:=ih w (by rw [hx];exact jcx _ h)
         rw [jb3];omega
     · rw [jcF.1 h,jb3,jb3]
       simp
theorem gn:∀ (l:List UInt8),(az l).length≤l.length+1
 | []=>jb4 _
 | b :: r=>by
   have ih:=gn r
   rw [az]
   split
   · rw [jb3,jb3];omega
   · split
     · rename_i x xs hx
       rw [hx,jb3] at ih
       rw [jb3,jb3];omega
     · rw [jb3,jb3];simp
theorem dO {s x:ByteArray} (h:x ∈ aj s):x.size≤s.size:=by
 obtain ⟨w,hw,rfl⟩:=jcw.1 h
 have hs:s.data.toList.length=s.size:=by rw [jb5];rfl
 have:=jF _ w hw
 show w.toArray.size≤_
 rw [jcm];omega
theorem gj (s:ByteArray):(aj s).length≤s.size+1:=by
 have hs:s.data.toList.length=s.size:=by rw [jb5];rfl
 have:=gn s.data.toList
 unfold aj
 rw [jb0];omega
def decT (s:ByteArray):ByteArray × Bool:=(⟨(decR s.data.toList).1.toArray⟩,(decR s.data.toList).2)
theorem tX (s:ByteArray):encS s.data.toList=(encB s).data.toList:=by
 unfold encS encB
 by_cases h:s.data.toList=[]
 · rw [if_pos h,if_pos h]
 · rw [if_neg h,if_neg h]
theorem qR (l:List UInt8):bL (encS l)=l:=by
 unfold encS
 split
 · rename_i h;rw [h];rfl
 · exact eX l
theorem nN (t:ByteArray):decT (encB t)=(t,true):=by
 unfold decT decR
 rw [← tX,qR,if_pos rfl]
theorem mw (s:ByteArray):(decT s).1.size≤s.size:=by
 have hs:s.data.toList.length=s.size:=by rw [jb5];rfl
 show (decR s.data.toList).1.toArray.size≤_
 rw [jcm]
 unfold decR
 split
 · rw [eW];omega
 · exact jbP _
abbrev sArg (s:ByteArray):SV:=.val false [.s s]
abbrev iArg (n:Int):SV:=.val false [.i .i64 n]
noncomputable def prsR (lo hi:Int) (s:ByteArray):SV:=.tup [(false,[.i .i64 (prs lo hi s).1]),(false,[.b (prs lo hi s).2])]
noncomputable def vY:FSpec where
 pre args:=∃ s:ByteArray,args=[sArg s,iArg 12]
 res args:=match args with
  | [.val _ [.s s],_]=>prsR (-999999999999) 999999999999 s
  | _=>.none
noncomputable def ou (lo hi:Int):FSpec where
 pre args:=∃ s:ByteArray,s.size≤281474976710656∧args=[sArg s]
 res args:=match args with
  | [.val _ [.s s]]=>prsR lo hi s
  | _=>.none
noncomputable def xJ:FSpec where
 pre args:=∃ (s:ByteArray) (lo hi:Int),s.size≤281474976710656 ∧ -999999999999≤lo∧hi≤999999999999∧args=[sArg s,iArg lo,iArg hi]
 res args:=match args with
  | [.val _ [.s s],.val _ [.i _ lo],.val _ [.i _ hi]]=>prsR lo hi s
  | _=>.none
def uT:FSpec where
 pre args:=∃ s:ByteArray,s.size≤1048576∧args=[sArg s]
 res args:=match args with
  | [.val _ [.s s]]=>.tup [(false,[.s (decT s).1]),(false,[.b (decT s).2])]
  | _=>.none
def dT (o:Bool):FSpec where
 pre args:=∃ s:ByteArray,s.size≤1048576∧args=[sArg s,.val false [.i .u8 32]]
 res args:=match args with
  | [.val _ [.s s],_]=>.val false [.sl o 9 (ae (aj s))]
  | _=>.none
def pE:FSpec where
 pre args:=∃ s:ByteArray,s.size≤1048576∧args=[sArg s,sArg ⟨#[32]⟩]
 res args:=match args with
  | [.val _ [.s s],_]=>.val false [.sl false 9 (ae (aj s))]
  | _=>.none
theorem resP {lo hi:Int} {s:ByteArray} {n:Int} {b:Bool} (h:prs lo hi s=(n,b)):[(false,[CV.i .i64 n]),(false,[CV.b b])]=[(false,[CV.i .i64 (prs lo hi s).1]),(false,[CV.b (prs lo hi s).2])]:=by rw [h]
theorem cm {s:ByteArray} {i:Nat} (h:i < s.size):s.data.toList[i]? = some (s.data.getD i 0):=by
 have hs:i < s.data.size:=h
 rw [jcR,Array.getD,dif_pos hs,jcq hs]
 rfl
theorem tK {s:ByteArray} (h0:decide ((s.size:Int) > 0)=true) (h:(((s.data.getD (Int.toNat 0) 0).toNat:Int) == 45)=true):s.data.toList.head? = some 45:=by
 have h1:0 < s.size:=by have:=jbO h0;omega
 rw [List.head?_eq_getElem?,cm h1]
 have:(s.data.getD 0 0).toNat=45:=by have h2:((s.data.getD 0 0).toNat:Int)=45:=eq_of_beq h;omega
 exact congrArg some (UInt8.toNat_inj.1 this)
theorem nv {s:ByteArray} (h0:decide ((s.size:Int) > 0)=true) (h:(((s.data.getD (Int.toNat 0) 0).toNat:Int) == 45)=false):s.data.toList.head? ≠ some 45:=by
 have h1:0 < s.size:=by have:=jbO h0;omega
 rw [List.head?_eq_getElem?,cm h1]
 intro e
 have h2:((s.data.getD 0 0).toNat:Int)=45:=by rw [jbR e];rfl
 have h3:((s.data.getD 0 0).toNat:Int) ≠ 45:=by simpa using h
 exact h3 h2
theorem xz {s:ByteArray} (h:s.data.toList.head? = some 45):tlB s.data.toList=(s.extract (Int.toNat 1) (s.size:Int).toNat).data.toList:=by
 have hsz:s.data.toList.length=s.size:=by rw [jb5];rfl
 unfold tlB
 rw [if_pos h,jdF,jdO,jdl,jca, ← hsz,jcH]
 rfl
theorem jI {s:ByteArray} (h:s.data.toList.head? ≠ some 45):tlB s.data.toList=s.data.toList:=if_neg h
theorem xy {s t:ByteArray} (h:tlB s.data.toList=t.data.toList):(tlB s.data.toList).length=t.size:=by rw [h,jb5];rfl
def RI (t:ByteArray) (N i:Nat):Prop:=Lib.decFrom 0 (t.data.toList.take i)=some N∧N < 10 ^ i∧i≤t.size
theorem RI.zero (t:ByteArray):RI t 0 0:=⟨rfl,by decide,jbP _⟩
theorem RI.small {t:ByteArray} {N i:Nat} (h:RI t N i) (ht:t.size≤12):N < 1000000000000:=jcM h.2.1 (jbV (Nat.pow_le_pow_right (by decide) (jbV h.2.2 ht)) (by decide))
theorem RI.less {t:ByteArray} {N i:Nat} (h:RI t N i) (hi:i < t.size) (ht:t.size≤12):N < 100000000000:=jcM h.2.1 (jbV (Nat.pow_le_pow_right (by decide) (show i≤11 by omega)) (by decide))
theorem RI.next {t:ByteArray} {N i:Nat} (h:RI t N i) (hi:i < t.size) (h1:¬ (t.data.getD i 0).toNat < 48) (h2:¬ (t.data.getD i 0).toNat > 57):RI t (N * 10+((t.data.getD i 0).toNat - 48)) (i+1):=by
 refine ⟨sK h.1 (cm hi) (by omega) (by omega),?_,hi⟩
 have:=h.2.1
 rw [Nat.pow_succ]
 omega
theorem RI.all {t:ByteArray} {N i:Nat} (h:RI t N i) (hi:¬ i < t.size):Lib.decFrom 0 t.data.toList=some N:=by
 have hsz:t.data.toList.length=t.size:=by rw [jb5];rfl
 have:=h.1
 rw [jcr (by omega)] at this
 exact this
theorem RI.num {t:ByteArray} {N i:Nat} (h:RI t N i) (hi:i < t.size) (ht:t.size≤12) (h1:¬ (t.data.getD i 0).toNat < 48) (h2:¬ (t.data.getD i 0).toNat > 57) :
 IntKind.i64.wrap (IntKind.i64.wrap (10 * (N:Int))+IntKind.i64.wrap (IntKind.u8.wrap (((t.data.getD i 0).toNat:Int) - 48)))=((N * 10+((t.data.getD i 0).toNat - 48):Nat):Int):=by
 have hN:=h.less hi ht
 have e1:IntKind.u8.wrap (((t.data.getD i 0).toNat:Int) - 48)=((t.data.getD i 0).toNat:Int) - 48:=IntWalk.u8_in _ (by omega)
 have e2:IntKind.i64.wrap (((t.data.getD i 0).toNat:Int) - 48)=((t.data.getD i 0).toNat:Int) - 48:=IntWalk.i64_in _ (by omega)
 have e3:IntKind.i64.wrap (10 * (N:Int))=10 * (N:Int):=IntWalk.i64_in _ (by omega)
 rw [e1,e2,e3,IntWalk.i64_in _ (by omega)]
 omega
theorem cU {s t:ByteArray} (h:tlB s.data.toList=t.data.toList) (hd:decide ((t.size:Int) < 1)=true∨decide ((t.size:Int) > 12)=true):prs (-999999999999) 999999999999 s=(0,false):=by
 refine vd ?_
 rw [xy h]
 rcases hd with h1|h1
 · have:=jbO h1;omega
 · have:=jbO h1;omega
theorem tJ {s:ByteArray} (h0:decide ((s.size:Int) > 0)=false):s.data.toList.head? ≠ some 45:=by
 have h1:s.size=0:=by have:=jbZ h0;omega
 have h2:s.data.toList=[]:=jcl.1 (by rw [jb5];exact h1)
 rw [h2]
 simp
theorem gK {s t:ByteArray} {i:Nat} (h:tlB s.data.toList=t.data.toList) (hi:i < t.size) (hd:decide (((t.data.getD (Int.toNat (i:Int)) 0).toNat:Int) < 48)=true∨decide (((t.data.getD (Int.toNat (i:Int)) 0).toNat:Int) > 57)=true) (lo hi' : Int):prs lo hi' s=(0,false):=by
 refine vf (i:=i) (b:=t.data.getD i 0) (by rw [h];exact cm hi) ?_ _ _
 rcases hd with h1|h1
 · exact .inl (by have:=jbO h1;rw [jca] at this;omega)
 · exact .inr (by have:=jbO h1;rw [jca] at this;omega)
theorem wQ {t:ByteArray} {i:Nat} (h1:decide (((t.data.getD (Int.toNat (i:Int)) 0).toNat:Int) < 48)=false) (h2:decide (((t.data.getD (Int.toNat (i:Int)) 0).toNat:Int) > 57)=false) :
 ¬ (t.data.getD i 0).toNat < 48∧¬ (t.data.getD i 0).toNat > 57:=by
 have h3:=jbZ h1
 have h4:=jbZ h2
 rw [jca] at h3 h4
 exact ⟨by omega,by omega⟩
theorem mY {s:ByteArray} {lo hi n n' : Int} (hn:n' = n) (hd:prs lo hi s=if aH n=s then (n,true) else (0,false)) (h:(!(aH n').toList == s.toList)=true):prs lo hi s=(0,false):=by
 subst hn
 rw [hd,if_neg]
 intro e
 rw [e] at h
 simp at h
theorem mZ {s:ByteArray} {lo hi n n' : Int} (hn:n' = n) (hd:prs lo hi s=if aH n=s then (n,true) else (0,false)) (h:(!(aH n').toList == s.toList)=false):prs lo hi s=(n',true):=by
 subst hn
 rw [hd,if_pos]
 have h2:((aH n').toList == s.toList)=true:=by simpa using h
 exact (aS _ _).mp (eq_of_beq h2)
theorem jae {f:Int→Int→Snap} {r r' a b:Int} (h:r=r') (h2:a=b):f r a=f r' b:=by rw [h,h2]
abbrev wAt (rows:List (List D)) (k:Nat):ByteArray:=((rows.getD k []).getD 0 default).str
def SmW (rows:List (List D)):Prop:=∀ k,k < rows.length→(wAt rows k).size≤1048576
noncomputable def numS (rows:List (List D)) (k:Nat):Int:=if k < rows.length then (prs (-999999999999) 999999999999 (wAt rows k)).1 else 0
def txtS (rows:List (List D)) (k:Nat):ByteArray:=if k < rows.length then (decT (wAt rows k)).1 else ⟨#[]⟩
abbrev curS (rows:List (List D)) (k:Int):SV:=.tup [(true,[.sl true 9 rows,.i .i64 k])]
noncomputable def vW:FSpec where
 pre args:=∃ (rows:List (List D)) (k:Nat),k≤4611686018427387904∧SmW rows∧args=[curS rows k]
 bx:=true
 res args:=match args with
  | [.tup [(_,[.sl _ _ rows,.i _ k])]]=>iArg (numS rows k.toNat)
  | _=>.none
 upd args:=match args with
  | [.tup [(_,[.sl _ _ rows,.i _ k])]]=>[.sl true 9 rows,.i .i64 (k+1)]
  | _=>[]
def vU:FSpec where
 pre args:=∃ (rows:List (List D)) (k:Nat),k≤4611686018427387904∧SmW rows∧args=[curS rows k]
 bx:=true
 res args:=match args with
  | [.tup [(_,[.sl _ _ rows,.i _ k])]]=>sArg (txtS rows k.toNat)
  | _=>.none
 upd args:=match args with
  | [.tup [(_,[.sl _ _ rows,.i _ k])]]=>[.sl true 9 rows,.i .i64 (k+1)]
  | _=>[]
abbrev scn (rows:List (List D)) (b:Bool):SV:=.tup [(true,[.sl false 9 rows,.b b])]
def hdW (rows:List (List D)):ByteArray:=if rows.length=0 then ⟨#[]⟩ else wAt rows 0
def okW (rows:List (List D)) (b:Bool):Bool:=if rows.length=0 then false else b
noncomputable abbrev gP (rows:List (List D)):Int × Bool:=prs (-1000000000) 1000000000 (hdW rows)
def rP:FSpec where
 pre args:=∃ (rows:List (List D)) (b:Bool),args=[scn rows b]
 bx:=true
 res args:=match args with
  | [.tup [(_,[.sl _ _ rows,.b b])]]=>sArg (hdW rows)
  | _=>.none
 upd args:=match args with
  | [.tup [(_,[.sl _ _ rows,.b b])]]=>[.sl false 9 (rows.drop 1),.b (okW rows b)]
  | _=>[]
noncomputable def rY:FSpec where
 pre args:=∃ (rows:List (List D)) (b:Bool),SmW rows∧args=[scn rows b]
 bx:=true
 res args:=match args with
  | [.tup [(_,[.sl _ _ rows,.b b])]]=>iArg (gP rows).1
  | _=>.none
 upd args:=match args with
  | [.tup [(_,[.sl _ _ rows,.b b])]]=>[.sl false 9 (rows.drop 1),.b (okW rows b && (gP rows).2)]
  | _=>[]
def rR:FSpec where
 pre args:=∃ (rows:List (List D)) (b:Bool),SmW rows∧args=[scn rows b]
 bx:=true
 res args:=match args with
  | [.tup [(_,[.sl _ _ rows,.b b])]]=>sArg (decT (hdW rows)).1
  | _=>.none
 upd args:=match args with
  | [.tup [(_,[.sl _ _ rows,.b b])]]=>[.sl false 9 (rows.drop 1),.b (okW rows b && (decT (hdW rows)).2)]
  | _=>[]
theorem mm {rows:List (List D)} (h:SmW rows):(hdW rows).size≤1048576:=by
 unfold hdW
 split
 · exact jbP _
 · exact h 0 (by omega)
theorem vj {rows:List (List D)} {k:Nat} (h:decide ((k:Int) < (rows.length:Int))=true):(prs (-999999999999) 999999999999 (wAt rows (Int.toNat (k:Int)))).1=numS rows (Int.toNat (k:Int)):=by
 have h1:=jbO h
 unfold numS
 rw [jca,if_pos (by omega)]
theorem yc {rows:List (List D)} {k:Nat} (h:decide ((k:Int) < (rows.length:Int))=false):0=numS rows (Int.toNat (k:Int)):=by
 have h1:=jbZ h
 unfold numS
 rw [jca,if_neg (by omega)]
theorem uH {rows:List (List D)} {k:Nat} (h:decide ((k:Int) < (rows.length:Int))=true):(decT (wAt rows (Int.toNat (k:Int)))).1=txtS rows (Int.toNat (k:Int)):=by
 have h1:=jbO h
 unfold txtS
 rw [jca,if_pos (by omega)]
theorem xt {rows:List (List D)} {k:Nat} (h:decide ((k:Int) < (rows.length:Int))=false):⟨#[]⟩=txtS rows (Int.toNat (k:Int)):=by
 have h1:=jbZ h
 unfold txtS
 rw [jca,if_neg (by omega)]
theorem yD {rows:List (List D)} (h:((rows.length:Int) == 0)=false):wAt rows (Int.toNat 0)=hdW rows∧rows.length ≠ 0:=by
 have h1:(rows.length:Int) ≠ 0:=by simpa using h
 have h2:rows.length ≠ 0:=by omega
 exact ⟨by unfold hdW;rw [if_neg h2];rfl,h2⟩
theorem jbe {rows:List (List D)} (h:((rows.length:Int) == 0)=true):⟨#[]⟩=hdW rows∧rows.length=0:=by
 have h1:(rows.length:Int)=0:=eq_of_beq h
 have h2:rows.length=0:=by omega
 exact ⟨by unfold hdW;rw [if_pos h2],h2⟩
theorem updNo {rows:List (List D)} {b:Bool} (h:rows.length=0):[CV.sl false 9 rows,CV.b false]=[CV.sl false 9 (rows.drop 1),CV.b (okW rows b)]:=by
 have:rows=[]:=jcl.1 h
 subst this
 rfl
theorem zk {rows:List (List D)} {b:Bool} (h:rows.length ≠ 0):[CV.sl false 9 (List.drop (Int.toNat 1) (List.take ((rows.length:Int)).toNat rows)),CV.b b]=[CV.sl false 9 (rows.drop 1),CV.b (okW rows b)]:=by
 unfold okW
 rw [if_neg h,jca,jcH]
 rfl
theorem updK {rows:List (List D)} {k:Nat} (hk:k≤4611686018427387904):[CV.sl true 9 rows,CV.i .i64 (IntKind.i64.wrap ((k:Int)+1))]=[CV.sl true 9 rows,CV.i .i64 ((k:Int)+1)]:=by
 rw [IntWalk.i64_in _ (by omega)]
theorem updB {rows:List (List D)} {x y:Bool} (h:x=y):[CV.sl false 9 rows,CV.b x]=[CV.sl false 9 rows,CV.b y]:=by rw [h]
def SpI (s:ByteArray) (o:List ByteArray) (fr i:Nat):Prop :=
 o.length≤i∧((i≤s.size∧fr≤i∧az (s.data.toList.take i)=o.map (·.data.toList)++[(s.extract fr i).data.toList])∨(i=s.size+1∧o=aj s))
theorem ext_list (s:ByteArray) (a b:Nat):(s.extract a b).data.toList=(s.data.toList.take b).drop a:=by
 rw [jdF,jdO,jdl]
theorem SpI.zero (s:ByteArray):SpI s [] 0 0:=⟨jb4 _,.inl ⟨jbP _,jb4 _,by rw [ext_list];rfl⟩⟩
theorem SpI.full {s:ByteArray} {o:List ByteArray} {fr i:Nat} (h:SpI s o fr i) (hi:i=s.size):SpI s (o++[s.extract fr i]) (i+1) (i+1):=by
 have hs:s.data.toList.length=s.size:=by rw [jb5];rfl
 obtain ⟨h0,⟨_,h2,h3⟩|⟨h2,_⟩⟩:=h
 · refine ⟨by rw [jbQ,jc0];omega,.inr ⟨by omega,?_⟩⟩
   rw [jcr (by omega)] at h3
   unfold aj
   have e1:∀ x:ByteArray,(⟨x.data.toList.toArray⟩:ByteArray)=x:=fun x=>by simp
   rw [h3,jc5,jdd]
   have e2:(o.map ((fun w:List UInt8=>(⟨w.toArray⟩:ByteArray)) ∘ fun x=>x.data.toList))=o:=by
    conv=>rhs;rw [← List.map_id o]
    exact jdj fun x _=>e1 x
   rw [e2,jdS,e1]
 · omega
theorem jL {s:ByteArray} {i:Nat} (hi:i < s.size):s.data.toList.take (i+1)=s.data.toList.take i++[s.data.getD i 0]:=by
 rw [jcN,cm hi];rfl
theorem SpI.space {s:ByteArray} {o:List ByteArray} {fr i:Nat} (h:SpI s o fr i) (hi:i < s.size) (hb:s.data.getD i 0=32):SpI s (o++[s.extract fr i]) (i+1) (i+1):=by
 obtain ⟨h0,⟨_,h2,h3⟩|⟨h2,_⟩⟩:=h
 · refine ⟨by rw [jbQ,jc0];omega,.inl ⟨hi,jb4 _,?_⟩⟩
   rw [jL hi,eF _ _ _ _ h3,if_pos hb,jc5,ext_list s (i+1) (i+1),List.drop_of_length_le (by rw [jb7];omega)]
   rfl
 · omega
theorem SpI.miss {s:ByteArray} {o:List ByteArray} {fr i:Nat} (h:SpI s o fr i) (hi:i < s.size) (hb:s.data.getD i 0 ≠ 32):SpI s o fr (i+1):=by
 have hs:s.data.toList.length=s.size:=by rw [jb5];rfl
 obtain ⟨h0,⟨_,h2,h3⟩|⟨h2,_⟩⟩:=h
 · refine ⟨by omega,.inl ⟨hi,by omega,?_⟩⟩
   rw [jL hi,eF _ _ _ _ h3,if_neg hb,ext_list,ext_list,jL hi,List.drop_append_of_le_length (by rw [jb7];omega)]
 · omega
theorem SpI.done {s:ByteArray} {o:List ByteArray} {fr i:Nat} (h:SpI s o fr i) (hi:¬ i≤s.size):o=aj s:=by
 obtain ⟨_,⟨h1,_⟩|⟨_,h3⟩⟩:=h
 · omega
 · exact h3
theorem SpI.le {s:ByteArray} {o:List ByteArray} {fr i:Nat} (h:SpI s o fr i) (hi:i≤s.size):fr≤i∧o.length≤i:=by
 obtain ⟨h0,⟨_,h2,_⟩|⟨h2,_⟩⟩:=h
 · exact ⟨h2,h0⟩
 · omega
theorem fK (o:List ByteArray) (x:ByteArray):ae o++([]++[[D.s x]])=ae (o++[x]):=by simp [ae]
theorem uU {f:List (List D)→Int→Int→Snap} {r r' : List (List D)} {a a' b b' : Int} (h:r=r') (h2:a=a') (h3:b=b'):f r a b=f r' a' b' := by rw [h,h2,h3]
theorem byte_of {s:ByteArray} {i:Nat} {x:Bool} (h:(((s.data.getD (Int.toNat (i:Int)) 0).toNat:Int) == 32)=x):(x=true→s.data.getD i 0=32)∧(x=false→s.data.getD i 0 ≠ 32):=by
 rw [jca] at h
 refine ⟨fun hx=>?_,fun hx e=>?_⟩
 · rw [hx] at h
   have h2:((s.data.getD i 0).toNat:Int)=32:=eq_of_beq h
   have h3:(s.data.getD i 0).toNat=32:=by omega
   exact UInt8.toNat_inj.1 h3
 · rw [hx,e] at h
   exact absurd h (by decide)
end Go.Proofs.YtdjfhmghebommaaGreatDoor.Ab
