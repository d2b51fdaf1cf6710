/- A part. -/
import Derived.Test.YtdkofgjbbdbglaaGreatDoorCQa
import Derived.Lib.HexFns2
import Derived.Lib.SplitLaws
namespace Go.Proofs.YtdkofgjbbdbglaaGreatDoor.Ab
open Go.RowKit
set_option linter.all false
def intOf (r:List D):Int:=(r.getD 0 default).int
def gA (rows:List (List D)):Bool:=rows.all (fun r=>inR (intOf r) 0 60) && decide (rows.length=3)
def lh (a:List D):Bool:=(a.getD 4 default).int == 0 && ((a.getD 5 default).int == 0 && ((a.getD 6 default).int == 0 && ((a.getD 7 default).int == 0 && ((a.getD 8 default).int == 0 && ((a.getD 9 default).str.toList == (⟨#[]⟩:ByteArray).toList && ((a.getD 10 default).str.toList == (⟨#[]⟩:ByteArray).toList && (a.getD 11 default).int == 0))))))
def ix (a:List D):Bool:=(a.getD 12 default).str.toList == (⟨#[]⟩:ByteArray).toList && (a.getD 13 default).str.toList == (⟨#[]⟩:ByteArray).toList
def lg (a:List D):Bool:=(a.getD 14 default).int == 0 && ((a.getD 15 default).int == 0 && ((a.getD 16 default).rows.length:Int) == 0)
def okOp (a:List D):Bool:=inR (a.getD 0 default).int 1 300 && (inR (a.getD 1 default).int 0 2 && (gA (a.getD 3 default).rows && (inR (a.getD 2 default).int 1 3 &&
 (if (a.getD 2 default).int=1 then ix a && lg a else if (a.getD 2 default).int=2 then lh a && lg a else lh a && ix a))))
def xb:FSpec where
 pre args:=∃ rows:List (List D),args=[argS 3 rows]
 res args:=match args with
  | [.val _ [.sl _ _ rows]]=>.val false [.b (gA rows)]
  | _=>.none
def spOp (T:Tab) (cts:List CT):FSpec where
 pre args:=∃ a:List D,WfRow T cts a∧args=[argG cts a]
 res args:=match args with
  | [.val _ cs]=>.val false [.b (okOp (csD cs))]
  | _=>.none
theorem g9 {p:List D→Bool} {rows:List (List D)} {i:Int} (h0:0≤i) (hi:i < rows.length) (h:(rows.take i.toNat).all p=true) (hp:p (rows.getD i.toNat [])=true):(rows.take (i+1).toNat).all p=true:=by
 have e:(i+1).toNat=i.toNat+1:=by omega
 rw [e,jd5,fH h0 hi,je8,h]
 simpa using hp
theorem gZ {p:List D→Bool} {rows:List (List D)} {i:Int} (h0:0≤i) (hi:i < rows.length) (hp:p (rows.getD i.toNat [])=false):rows.all p=false:=by
 rw [List.all_eq_false]
 refine ⟨rows.getD i.toNat [],?_,by rw [hp];simp⟩
 exact jdq (fH h0 hi)
theorem pn {p:List D→Bool} {rows:List (List D)} {i:Int} (h0:0≤i) (hi:i≤rows.length) (hn:decide (i < (rows.length:Int))=false) (h:(rows.take i.toNat).all p=true):rows.all p=true:=by
 have hn' : ¬ i < (rows.length:Int):=by simpa using hn
 have:i.toNat=rows.length:=by omega
 rwa [this,jdZ] at h
theorem okOp_rowC {cts:List CT} {a:List D} (wa:WfRow T cts a):okOp (csD (rowC cts a))=okOp a:=by rw [aw wa]
def bY (r:List D):Bool:=inR (intOf r) (-1000000000) 1000000000
abbrev numI (x:Int):List D:=[.i x]
abbrev numW (x:Int):List D:=[.s (aB x)]
abbrev encW (x:ByteArray):List D:=[.s (encB x)]
abbrev ints (a:List D) (js:List Nat):List (List D):=js.map fun j=>numI (a.getD j default).int
def bD (a:List D):List (List D):=ints a [0,1,2]++(a.getD 3 default).rows++ints a [4,5,6,7,8,11]
def em (r:List D):List (List D):=ints r [0,1,2]
abbrev rds (a:List D):List (List D):=(a.getD 16 default).rows
def aD (a:List D) (i:Nat):List (List D):=bD a++ints a [14,15]++((rds a).take i).flatMap em
def bK (r:List D):Bool:=((r.getD 4 default).int == 1 || (r.getD 4 default).int == 6) && okVal (sub r 4 7)
def bn (a:List D):Bool:=(rds a).all bK && ((aD a (rds a).length).all bY && okOp a)
def rowW (r:List D):List D:=numW (intOf r)
def bj (r:List D):List (List D):=[numW (r.getD 0 default).int,numW (r.getD 1 default).int,numW (r.getD 2 default).int,encW (r.getD 3 default).str,encW (bE (sub r 4 7))]
def dq (a:List D):List (List D):=(bD a).map rowW++[encW (a.getD 9 default).str,encW (a.getD 10 default).str,encW (a.getD 12 default).str,encW (a.getD 13 default).str]
def dn (a:List D):List (List D):=dq a++[numW (a.getD 14 default).int,numW (a.getD 15 default).int,numW ((rds a).length:Int)]
def aL (a:List D) (i:Nat):List (List D):=dn a++((rds a).take i).flatMap bj
def aJ (a:List D):ByteArray:=if bn a then bg (strsOf (aL a (rds a).length)) ⟨#[32]⟩ else ⟨#[]⟩
def SmO (a:List D):Prop:=(a.getD 3 default).rows.length≤1048576∧(rds a).length≤1048576∧((a.getD 9 default).str.size≤1048576∧(a.getD 10 default).str.size≤1048576∧(a.getD 12 default).str.size≤1048576∧(a.getD 13 default).str.size≤1048576) ∧
 ∀ i,i < (rds a).length→(((rds a).getD i []).getD 3 default).str.size≤1048576∧(((rds a).getD i []).getD 9 default).rows.length+(((rds a).getD i []).getD 10 default).rows.length≤2097152
theorem bW (a:List D):(bD a).length=(a.getD 3 default).rows.length+9:=by simp [bD,ints]
theorem gU (f:List D→List (List D)) (k:Nat) (h:∀ r,(f r).length=k) (l:List (List D)):(l.flatMap f).length=k * l.length:=by
 induction l with
 | nil=>rfl
 | cons r l ih=>rw [je0,jc8,ih,h,jdl,Nat.mul_add,jeO,Nat.add_comm]
theorem j6 {a:List D} {i:Nat} (hi:i≤(rds a).length):(aD a i).length=(a.getD 3 default).rows.length+11+3 * i:=by
 simp only [aD,jc8,bW,gU em 3 (fun _=>rfl),jdp,ints,jdi,jdl,jdu,jel hi]
theorem aQ (a:List D):(dq a).length=(a.getD 3 default).rows.length+13:=by simp [dq,bW]
theorem c8 (a:List D):(dn a).length=(a.getD 3 default).rows.length+16:=by simp [dn,aQ]
theorem bu {a:List D} {i:Nat} (hi:i≤(rds a).length):(aL a i).length=(a.getD 3 default).rows.length+16+5 * i:=by
 simp only [aL,jc8,c8,gU bj 5 (fun _=>rfl),jdp,jel hi]
theorem nE {f:List D→List (List D)} {rows:List (List D)} {i:Int} (h0:0≤i) (hi:i < rows.length):(rows.take (i+1).toNat).flatMap f=(rows.take i.toNat).flatMap f++f (rows.getD i.toNat []):=by
 have e:(i+1).toNat=i.toNat+1:=by omega
 rw [e,jd5,fH h0 hi,List.flatMap_append]
 simp
theorem mj {f:List D→List D} {rows:List (List D)} {i:Int} (h0:0≤i) (hi:i < rows.length):(rows.take (i+1).toNat).map f=(rows.take i.toNat).map f++[f (rows.getD i.toNat [])]:=by
 have e:(i+1).toNat=i.toNat+1:=by omega
 rw [e,jd5,fH h0 hi,jen]
 simp
theorem gK {a:List D} {i:Int} (h0:0≤i) (hi:i < (rds a).length):aD a i.toNat++em ((rds a).getD i.toNat [])=aD a (i+1).toNat:=by
 rw [aD,aD,nE h0 hi,jdM]
theorem fJ {a:List D} {i:Int} (h0:0≤i) (hi:i < (rds a).length):aL a i.toNat++bj ((rds a).getD i.toNat [])=aL a (i+1).toNat:=by
 rw [aL,aL,nE h0 hi,jdM]
theorem bz:∀ (k u:Nat),u < 10 ^ (k+1)→(Lib.decDigits u).length≤k+1
 | 0,u,h=>by
   rw [Lib.decDigits,dif_pos (by simpa using h)]
   simp
 | k+1,u,h=>by
   rw [Lib.decDigits]
   split
   · simp
   · have:=bz k (u / 10) (by rw [Nat.div_lt_iff_lt_mul (by decide)];rw [Nat.pow_succ] at h;exact h)
     rw [jc8,jei]
     omega
theorem dh {n:Int} (h:inR n (-1000000000) 1000000000=true):(aB n).size≤11:=by
 simp only [inR,jdj,decide_eq_true_eq] at h
 show (Lib.itoa n).toArray.size≤_
 rw [jdE]
 unfold Lib.itoa
 split
 · have:=bz 9 n.natAbs (by simp only [Nat.reduceAdd,Nat.reducePow];omega)
   rw [jdl]
   omega
 · have:=bz 9 n.toNat (by simp only [Nat.reduceAdd,Nat.reducePow];omega)
   omega
theorem iV (sep:List UInt8) (M:Nat):∀ (xs:List (List UInt8)),(∀ x ∈ xs,x.length≤M)→(Lib.joinTail sep xs).length≤xs.length * (M+sep.length)
 | [],_=>jc7 _
 | x :: xs,h=>by
   have ih:=iV sep M xs (fun y hy=>h y (jdP _ hy))
   have hx:=h x (jdB ..)
   have:Lib.joinTail sep (x :: xs)=sep++x++Lib.joinTail sep xs:=by simp [Lib.joinTail]
   rw [this,jc8,jc8,jdl,jeK,Nat.one_mul]
   omega
theorem df {xs:List ByteArray} {sep:ByteArray} {M:Nat} (h:∀ x ∈ xs,x.size≤M):(bg xs sep).size≤xs.length * (M+sep.size):=by
 show (Lib.join (xs.map (·.data.toList)) sep.data.toList).toArray.size≤_
 rw [jdE]
 have hs:sep.data.toList.length=sep.size:=by rw [jdn];rfl
 cases xs with
 | nil=>exact jc7 _
 | cons x xs =>
   have hx:x.data.toList.length≤M:=by rw [jdn];exact h x (jdB ..)
   have:=iV sep.data.toList M (xs.map (·.data.toList)) (fun y hy=>by
    obtain ⟨z,hz,rfl⟩:=jdO.1 hy
    rw [jdn];exact h z (jdP _ hz))
   rw [hs,jdi] at this
   have hj:Lib.join ((x :: xs).map (·.data.toList)) sep.data.toList=x.data.toList++Lib.joinTail sep.data.toList (xs.map (·.data.toList)):=Lib.join_cons _ _ _
   rw [hj,jc8,jdl,jeK,Nat.one_mul]
   omega
def wN (M:Nat) (r:List D):Prop:=(r.getD 0 default).str.size≤M
theorem dX {a:List D} (h:okVal a=true) (hk:(a.getD 0 default).int=1∨(a.getD 0 default).int=6):(bE a).size≤15:=by
 rcases hk with h1|h6
 · rw [uc h1]
   simp only [okVal,h1,if_true,jdj] at h
   have hn:inR (a.getD 1 default).int (-1000000000) 1000000000=true:=by simp_all
   have:=dh hn
   omega
 · rw [ud h6,jdr]
   have:=dN (a.getD 1 default).int
   show 6+_≤_
   omega
theorem cf {r:List D} (h:bK r=true):((sub r 4 7).getD 0 default).int=1∨((sub r 4 7).getD 0 default).int=6:=by
 simp only [bK,jdj,jey,beq_iff_eq] at h
 exact h.1
theorem cS {r:List D} (h:bK r=true):okVal (sub r 4 7)=true:=by
 simp only [bK,jdj] at h
 exact h.2
theorem f9 {a:List D} (hs:SmO a) (hg:bn a=true):(bg (strsOf (aL a (rds a).length)) ⟨#[32]⟩).size≤140737488355328:=by
 have hl:(strsOf (aL a (rds a).length)).length=(a.getD 3 default).rows.length+16+5 * (rds a).length:=by rw [strsOf,jdi,bu (jdm _)]
 simp only [bn,jdj] at hg
 have hw:∀ r ∈ aL a (rds a).length,wN 2097153 r:=by
  have nums:∀ r ∈ aD a (rds a).length,(aB (intOf r)).size≤2097153:=fun r hr=>jdd (dh (jdt.1 hg.2.1 r hr)) (by decide)
  have enc:∀ s:ByteArray,s.size≤1048576→(encB s).size≤2097153:=fun s h=>by have:=nJ s;omega
  have n14:(aB (a.getD 14 default).int).size≤2097153:=nums (numI (a.getD 14 default).int) (by simp [aD,ints])
  have n15:(aB (a.getD 15 default).int).size≤2097153:=nums (numI (a.getD 15 default).int) (by simp [aD,ints])
  have nl:(aB ((rds a).length:Int)).size≤2097153:=jdd (dh (by have:=hs.2.1;simp only [inR,jdj,decide_eq_true_eq];omega)) (by decide)
  intro r hr
  unfold aL dn dq at hr
  rcases jdG.1 hr with hr|hr
  · rcases jdG.1 hr with hr|hr
    · rcases jdG.1 hr with hr|hr
      · obtain ⟨x,hx,rfl⟩:=jdO.1 hr
        exact nums x (by unfold aD;exact jeN _ (jeN _ hx))
      · simp only [jde,jda,or_false] at hr
        rcases hr with rfl|rfl|rfl|rfl
        · exact enc _ hs.2.2.1.1
        · exact enc _ hs.2.2.1.2.1
        · exact enc _ hs.2.2.1.2.2.1
        · exact enc _ hs.2.2.1.2.2.2
    · simp only [jde,jda,or_false] at hr
      rcases hr with rfl|rfl|rfl
      · exact n14
      · exact n15
      · exact nl
  · rw [jdZ] at hr
    obtain ⟨x,hx,hr⟩:=jeG.1 hr
    have hgx:=jdt.1 hg.1 x hx
    obtain ⟨i,hi,he⟩:=jeM.1 hx
    have hb:=hs.2.2.2 i hi
    rw [show (rds a).getD i []=x by rw [jdb,jc5 hi,he];rfl] at hb
    have hin:∀ j,j=0∨j=1∨j=2→(aB (x.getD j default).int).size≤2097153:=fun j hj=>nums (numI (x.getD j default).int) (by
     unfold aD
     refine List.mem_append_right _ ?_
     rw [jdZ]
     refine jeG.2 ⟨x,hx,?_⟩
     rcases hj with rfl|rfl|rfl <;> simp [em,ints])
    simp only [bj,jde,jda,or_false] at hr
    rcases hr with rfl|rfl|rfl|rfl|rfl
    · exact hin 0 (.inl rfl)
    · exact hin 1 (.inr (.inl rfl))
    · exact hin 2 (.inr (.inr rfl))
    · exact enc _ hb.1
    · exact enc _ (jdd (dX (cS hgx) (cf hgx)) (by decide))
 have:=df (xs:=strsOf (aL a (rds a).length)) (sep:=⟨#[32]⟩) (M:=2097153) (fun x hx=>by
  obtain ⟨r,hr,rfl⟩:=jdO.1 hx
  exact hw r hr)
 have h1:=hs.1
 have h2:=hs.2.1
 rw [hl] at this
 refine jdd this (jdd (Nat.mul_le_mul (show _≤1048576+16+5 * 1048576 by omega) (jdm _)) (by decide))
theorem ju {p:List D→Bool} {xs ys:List (List D)}:(!(xs.all p) || !(ys.all p))=!((xs++ys).all p):=by rw [je8,Bool.not_and]
def iw (a:List D) (i:Nat):Bool:=!((aD a i).all bY)
theorem qU {a:List D} (h:(rds a).length≤1048576):(!((bD a).all bY) || !(([numI (a.getD 14 default).int,numI (a.getD 15 default).int,numI ((rds a).length:Int)]:List (List D)).all bY))=iw a 0:=by
 have hn:bY (numI ((rds a).length:Int))=true:=by
  show inR ((rds a).length:Int) (-1000000000) 1000000000=true
  simp only [inR,jdj,decide_eq_true_eq]
  omega
 rw [ju,iw,aD,List.take_zero,List.flatMap_nil,jeu,je8,je8]
 simp only [jeS,List.all_nil,hn,ints,jed,List.map_nil,jdQ]
theorem qV {a:List D} {i:Int} (h0:0≤i) (hi:i < (rds a).length):(iw a i.toNat || !((em ((rds a).getD i.toNat [])).all bY))=iw a (i+1).toNat:=by
 rw [iw,ju,gK h0 hi]
 rfl
theorem oK (a:List D):dq a=(ints a [0,1,2]).map rowW++(a.getD 3 default).rows.map rowW++(ints a [4,5,6,7,8,11]).map rowW++[encW (a.getD 9 default).str,encW (a.getD 10 default).str,encW (a.getD 12 default).str,encW (a.getD 13 default).str]:=by
 rw [dq,bD,jen,jen]
theorem txt4 {a b c d:ByteArray} {M:Nat} (ha:a.size≤M) (hb:b.size≤M) (hc:c.size≤M) (hd:d.size≤M):∀ i,i < ([[.s a],[.s b],[.s c],[.s d]]:List (List D)).length→((([[.s a],[.s b],[.s c],[.s d]]:List (List D)).getD i []).getD 0 default).str.size≤M
 | 0,_=>ha
 | 1,_=>hb
 | 2,_=>hc
 | 3,_=>hd
 | i+4,h=>absurd h (by simp)
theorem txt2 {a b:ByteArray} {M:Nat} (ha:a.size≤M) (hb:b.size≤M):∀ i,i < ([[.s a],[.s b]]:List (List D)).length→((([[.s a],[.s b]]:List (List D)).getD i []).getD 0 default).str.size≤M
 | 0,_=>ha
 | 1,_=>hb
 | i+2,h=>absurd h (by simp)
def r7 (T:Tab) (cts:List CT):FSpec where
 pre args:=∃ a:List D,WfRow T cts a∧SmO a∧args=[argG cts a]
 res args:=match args with
  | [.val _ cs]=>.val false [.sl true 3 (bD (csD cs))]
  | _=>.none
def xf (T:Tab) (cts:List CT):FSpec where
 pre args:=∃ a:List D,WfRow T cts a∧SmO a∧args=[argG cts a]
 res args:=match args with
  | [.val _ cs]=>.val false [.b (bn (csD cs))]
  | _=>.none
def vr (T:Tab) (cts:List CT):FSpec where
 pre args:=∃ a:List D,WfRow T cts a∧SmO a∧args=[argG cts a]
 res args:=match args with
  | [.val _ cs]=>.val false [.s (aJ (csD cs))]
  | _=>.none
def w8 (e:TypeId):FSpec where
 pre args:=∃ (ws nums:List (List D)) (b:Bool),(ws.length+nums.length) * 16≤140737488355328∧args=[.tup [(true,[.sl true e ws,.b b])],argS 3 nums]
 bx:=true
 res _:=.tup []
 upd args:=match args with
  | [.tup [(_,[.sl _ e ws,.b b])],.val _ [.sl _ _ nums]]=>[.sl true e (ws++nums.map rowW),.b (b || !nums.all bY)]
  | _=>[]
def rowE (r:List D):List D:=encW (r.getD 0 default).str
def rU (e:TypeId):FSpec where
 pre args:=∃ (ws txts:List (List D)) (b:Bool),(ws.length+txts.length) * 16≤140737488355328∧(∀ i,i < txts.length→((txts.getD i []).getD 0 default).str.size≤70368744177664)∧args=[.tup [(true,[.sl true e ws,.b b])],argS 9 txts]
 bx:=true
 res _:=.tup []
 upd args:=match args with
  | [.tup [(_,[.sl _ e ws,.b b])],.val _ [.sl _ _ txts]]=>[.sl true e (ws++txts.map rowE),.b b]
  | _=>[]
end Go.Proofs.YtdkofgjbbdbglaaGreatDoor.Ab
namespace Go.Proofs.YtdkofgjbbdbglaaGreatDoor
open Go.Lib
def dg (c:UInt8):Nat:=if 48≤c.toNat∧c.toNat≤57 then c.toNat - 48 else if 97≤c.toNat∧c.toNat≤102 then c.toNat - 97+10 else 0
theorem wd (c:UInt8):dg c≤15:=by unfold dg;split <;> (try split) <;> omega
def bP:List UInt8→List UInt8
 | p :: q :: t=>UInt8.ofNat (16 * dg p+dg q) :: bP t
 | _=>[]
def encS (l:List UInt8):List UInt8:=if l=[] then [45] else Hx.encode l
def decR (l:List UInt8):List UInt8 × Bool:=if encS (bP l)=l then (bP l,true) else ([],false)
def isOk:Hx.Out→Bool
 | .ok=>true
 | _=>false
def decI (l:List UInt8):List UInt8 × Bool :=
 if l=[45] then ([],true) else if isOk (Hx.decode l).2=true∧encS (Hx.decode l).1=l then ((Hx.decode l).1,true) else ([],false)
theorem qn (n:Nat) (h:n < 16):dg (Hx.digit n)=n:=by
 have:∀ n:Fin 16,dg (Hx.digit n.val)=n.val:=by decide
 exact this ⟨n,h⟩
set_option maxRecDepth 100000 in
theorem v_digit (n:Nat) (h:n < 16):Hx.v (Hx.digit n)=n:=by
 have:∀ n:Fin 16,Hx.v (Hx.digit n.val)=n.val:=by decide
 exact this ⟨n,h⟩
theorem kv (b:UInt8):UInt8.ofNat (16 * (b.toNat / 16)+b.toNat % 16)=b:=by
 rw [show 16 * (b.toNat / 16)+b.toNat % 16=b.toNat by omega];simp
theorem eW:∀ l:List UInt8,bP (Hx.encode l)=l
 | []=>rfl
 | b :: t=>by
   have hb:=b.toNat_lt
   rw [Hx.encode_cons,bP,qn _ (by omega),qn _ (by omega),kv,eW t]
theorem decode_encode:∀ l:List UInt8,Hx.decode (Hx.encode l)=(l,.ok)
 | []=>Hx.decode_nil
 | b :: t=>by
   have hb:=b.toNat_lt
   rw [Hx.encode_cons,Hx.decode_two,v_digit _ (by omega),v_digit _ (by omega),if_neg (by omega),if_neg (by omega),decode_encode t,
    show b.toNat / 16 * 16+b.toNat % 16=16 * (b.toNat / 16)+b.toNat % 16 by omega,kv]
theorem ul {l m:List UInt8} (h:encS m=l) (hl:l ≠ [45]):m ≠ []∧Hx.encode m=l:=by
 unfold encS at h
 split at h
 · exact absurd h.symm hl
 · exact ⟨by assumption,h⟩
theorem wi (l:List UInt8):decI l=decR l:=by
 unfold decI decR
 by_cases hl:l=[45]
 · subst hl;rfl
 · rw [if_neg hl]
   by_cases h:encS (bP l)=l
   · obtain ⟨hm,he⟩:=ul h hl
     have hd:Hx.decode l=(bP l,.ok):=by rw [← he,decode_encode,he]
     rw [if_pos h,hd,if_pos ⟨rfl,h⟩]
   · rw [if_neg h,if_neg]
     rintro ⟨_,h2⟩
     obtain ⟨hm,he⟩:=ul h2 hl
     have hp:bP l=(Hx.decode l).1:=by rw [← he,eW,he]
     exact h (by rw [hp];exact h2)
theorem eV:∀ l:List UInt8,(bP l).length=l.length / 2
 | []=>rfl
 | [_]=>by simp [bP]
 | _ :: _ :: t=>by
   have:=eV t
   simp only [bP,jdl]
   omega
theorem iN:∀ (a:List UInt8) (p q:UInt8),a.length % 2=0→bP (a++[p,q])=bP a++[UInt8.ofNat (16 * dg p+dg q)]
 | [],_,_,_=>rfl
 | [x],_,_,h=>by simp at h
 | x :: y :: t,p,q,h=>by
   have:=iN t p q (by simp only [jdl] at h;omega)
   simp only [jdc,bP,this]
theorem nf:∀ (a:List UInt8) (p:UInt8),a.length % 2=0→bP (a++[p])=bP a
 | [],_,_=>rfl
 | [x],_,h=>by simp at h
 | x :: y :: t,p,h=>by
   have:=nf t p (by simp only [jdl] at h;omega)
   simp only [jdc,bP,this]
theorem tg (l:List UInt8) (j:Nat) (hj:j % 2=0) (hle:j≤l.length) (h:¬ j+1 < l.length):bP (l.take j)=bP l:=by
 rcases (by omega:j=l.length∨l.length=j+1) with rfl|h1
 · rw [jdJ (jdm _)]
 · have e:l=l.take j++[l[j]'(by omega)]:=by
    rw [← jeq (by omega),jdJ (by omega)]
   rw [e,List.take_append_of_le_length (by simp;omega),List.take_take,Nat.min_self,nf _ _ (by simp;omega)]
theorem qQ (s:ByteArray) (j:Nat) (hj:j % 2=0) (h:j+1 < s.size):bP (s.data.toList.take (j+2))=bP (s.data.toList.take j)++[UInt8.ofNat (16 * dg s[j]+dg s[j+1])]:=by
 have e:s.data.toList.take (j+2)=s.data.toList.take j++[s[j],s[j+1]]:=by
  rw [jeq (by simp;omega),jeq (by simp;omega),jdM];rfl
 rw [e,iN _ _ _ (by simp;omega)]
end Go.Proofs.YtdkofgjbbdbglaaGreatDoor
namespace Go.Proofs.YtdkofgjbbdbglaaGreatDoor.Ab
open Go.RowKit
set_option linter.all false
open Classical in
noncomputable def prs (lo hi:Int) (s:ByteArray):Int × Bool:=if h:∃ n:Int,lo≤n∧n≤hi∧aB n=s then (h.choose,true) else (0,false)
theorem bh (n:Int):(aB n).data.toList=Lib.itoa n:=by simp [aB]
theorem tM {n m:Int} (h:aB n=aB m):n=m:=by
 have h1:=congrArg (fun s=>Lib.atoi s.data.toList) h
 simp only [bh,nU,jdH] at h1
 exact h1
theorem eU {lo hi n:Int} {s:ByteArray} (h1:lo≤n) (h2:n≤hi) (h:aB n=s):prs lo hi s=(n,true):=by
 have hex:∃ n:Int,lo≤n∧n≤hi∧aB n=s:=⟨n,h1,h2,h⟩
 unfold prs
 rw [dif_pos hex]
 have:=hex.choose_spec
 rw [tM (this.2.2.trans h.symm)]
theorem fI {lo hi:Int} {s:ByteArray} (h:∀ n:Int,lo≤n→n≤hi→aB n ≠ s):prs lo hi s=(0,false):=dif_neg fun ⟨n,h1,h2,h3⟩=>h n h1 h2 h3
theorem pU {lo hi:Int} {s:ByteArray} (h1:lo≤0) (h2:0≤hi):lo≤(prs lo hi s).1∧(prs lo hi s).1≤hi:=by
 by_cases h:∃ n:Int,lo≤n∧n≤hi∧aB n=s
 · obtain ⟨n,h3,h4,h5⟩:=h
   rw [eU h3 h4 h5]
   exact ⟨h3,h4⟩
 · rw [fI fun n h3 h4 h5=>h ⟨n,h3,h4,h5⟩]
   exact ⟨h1,h2⟩
theorem s9 {lo hi:Int} {s:ByteArray} (h:(prs lo hi s).2=true):aB (prs lo hi s).1=s:=by
 by_cases hx:∃ n:Int,lo≤n∧n≤hi∧aB n=s
 · obtain ⟨n,h3,h4,h5⟩:=hx
   rw [eU h3 h4 h5]
   exact h5
 · rw [fI fun n h3 h4 h5=>hx ⟨n,h3,h4,h5⟩] at h
   cases h
theorem ko (u:Nat):(Lib.decDigits u).head? ≠ some 45:=by
 intro h
 have hm:(45:UInt8) ∈ Lib.decDigits u:=List.mem_of_mem_head? h
 exact absurd (cj u _ hm) (by decide)
def tlB (l:List UInt8):List UInt8:=if l.head? = some 45 then l.drop 1 else l
theorem lB (m:Int):tlB (Lib.itoa m)=Lib.decDigits m.natAbs∧((Lib.itoa m).head? = some 45 ↔ m < 0):=by
 unfold Lib.itoa
 split
 · rename_i h
   exact ⟨rfl,fun _=>h,fun _=>rfl⟩
 · rename_i h
   refine ⟨?_,fun h2=>absurd h2 (ko _),fun h2=>absurd h2 h⟩
   unfold tlB
   rw [if_neg (ko _)]
   congr 1
   omega
theorem iX {k u:Nat} (h:u < 10 ^ (k+1)):(Lib.decDigits u).length≤k+1:=bz k u h
theorem m7 {s:ByteArray} {n:Int} (N:Nat) (hN:N < 1000000000000) (hd:Lib.decFrom 0 (tlB s.data.toList)=some N) (hs:n=if s.data.toList.head? = some 45 then -(N:Int) else N) :
 prs (-999999999999) 999999999999 s=if aB n=s then (n,true) else (0,false):=by
 split
 · exact eU (by split at hs <;> omega) (by split at hs <;> omega) ‹_›
 · rename_i hne
   refine fI fun m h1 h2 hm=>hne ?_
   obtain ⟨e1,e2⟩:=lB m
   have hl:s.data.toList=Lib.itoa m:=by rw [← hm,bh]
   rw [hl,e1,kp] at hd
   have hN' : m.natAbs=N:=jc9 hd
   have:n=m:=by
    rw [hs,hl]
    split
    · rename_i h;have:=e2.1 h;omega
    · rename_i h;have:¬ m < 0:=fun h' => h (e2.2 h');omega
   rw [this]
   exact hm
theorem vI {s:ByteArray} (h:(tlB s.data.toList).length < 1∨(tlB s.data.toList).length > 12):prs (-999999999999) 999999999999 s=(0,false):=by
 refine fI fun m h1 h2 hm=>?_
 have hl:s.data.toList=Lib.itoa m:=by rw [← hm,bh]
 obtain ⟨e1,_⟩:=lB m
 rw [hl,e1] at h
 have:=iX (k:=11) (u:=m.natAbs) (by simp only [Nat.reduceAdd,Nat.reducePow];omega)
 have h0:0 < (Lib.decDigits m.natAbs).length:=List.length_pos_iff.2 (fc _)
 omega
theorem vJ {s:ByteArray} {i:Nat} {b:UInt8} (hb:(tlB s.data.toList)[i]? = some b) (h:b.toNat < 48∨57 < b.toNat) (lo hi:Int):prs lo hi s=(0,false):=by
 refine fI fun m h1 h2 hm=>?_
 have hl:s.data.toList=Lib.itoa m:=by rw [← hm,bh]
 obtain ⟨e1,_⟩:=lB m
 rw [hl,e1] at hb
 have:=cj m.natAbs b (jdq hb)
 omega
theorem ut {b:UInt8} (h1:48≤b.toNat) (h2:b.toNat≤57):Lib.digitVal b=some (b.toNat - 48):=by
 unfold Lib.digitVal
 rw [if_pos ⟨h1,h2⟩]
theorem sQ {l:List UInt8} {i N:Nat} {b:UInt8} (hd:Lib.decFrom 0 (l.take i)=some N) (hb:l[i]? = some b) (h1:48≤b.toNat) (h2:b.toNat≤57) :
 Lib.decFrom 0 (l.take (i+1))=some (N * 10+(b.toNat - 48)):=Lib.decFrom_take l i 0 N b _ hd hb (ut h1 h2)
theorem qY {n:Int} {s:ByteArray} (h:18 < s.size) (h1:-999999999999≤n) (h2:n≤999999999999):aB n ≠ s:=by
 intro e
 have hl:(Lib.itoa n).length=s.size:=by rw [← bh,e,jdn];rfl
 have:=iX (k:=11) (u:=n.natAbs) (by simp only [Nat.reduceAdd,Nat.reducePow];omega)
 unfold Lib.itoa at hl
 split at hl
 · rw [jdl] at hl;omega
 · rw [show n.toNat=n.natAbs by omega] at hl;omega
def ah (s:ByteArray):List ByteArray:=(aG s.data.toList).map fun w=>⟨w.toArray⟩
theorem nX (w r:List UInt8) (h:∀ b ∈ w,b ≠ 32):aG (w++32 :: r)=w :: aG r:=by
 have:=cT w (32 :: r) h [] (aG r) (gm r)
 rw [this,jeu]
theorem mL (w:List UInt8) (h:∀ b ∈ w,b ≠ 32):aG w=[w]:=by
 have:=cT w [] h [] [] rfl
 simp only [jeu] at this
 exact this
theorem jT:∀ (k:Nat) (s:ByteArray),s.size≤k→Lib.splitB ⟨#[32]⟩ 0 (Lib.countB s ⟨#[32]⟩) s=ah s
 | k, s, hk=>by
   have one:Lib.indexB s ⟨#[32]⟩=Lib.indexByte s.data.toList 32:=Lib.one s ⟨#[32]⟩ rfl
   have ge:=Lib.indexByte_ge s.data.toList 32
   rcases (by omega:Lib.indexByte s.data.toList 32 = -1∨0≤Lib.indexByte s.data.toList 32) with h|h
   · rw [Lib.countB_miss _ _ (one.trans h),Lib.splitB_zero]
     have hn:∀ b ∈ s.data.toList,b ≠ 32:=fun b hb e=>by
      obtain ⟨i,hi⟩:=jec hb
      exact Lib.indexByte_none h i (e ▸ hi)
     unfold ah
     rw [mL _ hn]
     rfl
   · obtain ⟨i,hi⟩:∃ i:Nat,Lib.indexByte s.data.toList 32=i:=⟨_,(Int.toNat_of_nonneg h).symm⟩
     obtain ⟨h1,h2⟩:=Lib.indexByte_some hi
     have hlt:i < s.data.toList.length:=(jdg.1 h1).1
     have hsz:s.data.toList.length=s.size:=by rw [jdn];rfl
     rw [Lib.countB_hit _ _ i (by decide) (one.trans hi),Nat.add_comm,Lib.splitB_hit _ _ _ _ i (one.trans hi)]
     have hl:s.data.toList=s.data.toList.take i++32 :: s.data.toList.drop (i+1):=by
      have h3:s.data.toList[i]=32:=(jdg.1 h1).2
      rw [← h3,List.getElem_cons_drop,List.take_append_drop]
     have hw:aG s.data.toList=s.data.toList.take i :: aG (s.data.toList.drop (i+1)):=by
      conv=>lhs;rw [hl]
      exact nX _ _ fun b hb e=>by
       obtain ⟨j,hj⟩:=jec hb
       have hj1:=(jdg.1 hj).1
       rw [jdp] at hj1
       rw [List.getElem?_take_of_lt (by omega)] at hj
       exact h2 j (by omega) (e ▸ hj)
     have ih:=jT (k - 1) (s.extract (i+1) s.size) (by rw [jdv];omega)
     have e1:(s.extract (i+1) s.size).data.toList=s.data.toList.drop (i+1):=by
      rw [jeX,je6]
      rw [jeD, ← hsz,jdZ]
     have e0:s.extract 0 (i+0)=⟨(s.data.toList.take i).toArray⟩:=by
      apply jes
      apply jep
      rw [jeX,je6,jeD]
      simp
     show s.extract 0 (i+0) :: Lib.splitB ⟨#[32]⟩ 0 (Lib.countB (s.extract (i+1) s.size) ⟨#[32]⟩) (s.extract (i+1) s.size)=_
     rw [ih,e0]
     unfold ah
     rw [hw,e1]
     rfl
 termination_by k s=>s.size
 decreasing_by
  rw [jdv]
  have:s.data.toList.length=s.size:=by rw [jdn];rfl
  omega
theorem jD:∀ (l:List UInt8), ∀ w ∈ aG l,w.length≤l.length
 | [],w,h=>by
   rw [aG] at h
   rw [jdX.1 h]
   exact jdm _
 | b :: r,w,h=>by
   have ih:=jD r
   rw [aG] at h
   split at h
   · rcases jde.1 h with rfl|h
     · exact jc7 _
     · have:=ih w h;rw [jdl];omega
   · split at h
     · rename_i x xs hx
       rcases jde.1 h with rfl|h
       · have:=ih x (by rw [hx];exact jdB ..)
         rw [jdl,jdl];omega
       · have:=ih w (by rw [hx];exact jdP _ h)
         rw [jdl];omega
     · rw [jdX.1 h,jdl,jdl]
       simp
theorem gn:∀ (l:List UInt8),(aG l).length≤l.length+1
 | []=>jdm _
 | b :: r=>by
   have ih:=gn r
   rw [aG]
   split
   · rw [jdl,jdl];omega
   · split
     · rename_i x xs hx
       rw [hx,jdl] at ih
       rw [jdl,jdl];omega
     · rw [jdl,jdl];simp
theorem fM {s x:ByteArray} (h:x ∈ ah s):x.size≤s.size:=by
 obtain ⟨w,hw,rfl⟩:=jdO.1 h
 have hs:s.data.toList.length=s.size:=by rw [jdn];rfl
 have:=jD _ w hw
 show w.toArray.size≤_
 rw [jdE];omega
theorem dQ (s:ByteArray):(ah s).length≤s.size+1:=by
 have hs:s.data.toList.length=s.size:=by rw [jdn];rfl
 have:=gn s.data.toList
 unfold ah
 rw [jdi];omega
def decT (s:ByteArray):ByteArray × Bool:=(⟨(decR s.data.toList).1.toArray⟩,(decR s.data.toList).2)
theorem um (s:ByteArray):encS s.data.toList=(encB s).data.toList:=by
 unfold encS encB
 by_cases h:s.data.toList=[]
 · rw [if_pos h,if_pos h]
 · rw [if_neg h,if_neg h]
theorem qR (l:List UInt8):bP (encS l)=l:=by
 unfold encS
 split
 · rename_i h;rw [h];rfl
 · exact eW l
theorem nP (t:ByteArray):decT (encB t)=(t,true):=by
 unfold decT decR
 rw [← um,qR,if_pos rfl]
theorem mB (s:ByteArray):(decT s).1.size≤s.size:=by
 have hs:s.data.toList.length=s.size:=by rw [jdn];rfl
 show (decR s.data.toList).1.toArray.size≤_
 rw [jdE]
 unfold decR
 split
 · rw [eV];omega
 · exact jc7 _
abbrev sArg (s:ByteArray):SV:=.val false [.s s]
abbrev iArg (n:Int):SV:=.val false [.i .i64 n]
noncomputable def prsR (lo hi:Int) (s:ByteArray):SV:=.tup [(false,[.i .i64 (prs lo hi s).1]),(false,[.b (prs lo hi s).2])]
noncomputable def xc:FSpec where
 pre args:=∃ s:ByteArray,args=[sArg s,iArg 12]
 res args:=match args with
  | [.val _ [.s s],_]=>prsR (-999999999999) 999999999999 s
  | _=>.none
noncomputable def rZ (lo hi:Int):FSpec where
 pre args:=∃ s:ByteArray,s.size≤281474976710656∧args=[sArg s]
 res args:=match args with
  | [.val _ [.s s]]=>prsR lo hi s
  | _=>.none
noncomputable def yN:FSpec where
 pre args:=∃ (s:ByteArray) (lo hi:Int),s.size≤281474976710656 ∧ -999999999999≤lo∧hi≤999999999999∧args=[sArg s,iArg lo,iArg hi]
 res args:=match args with
  | [.val _ [.s s],.val _ [.i _ lo],.val _ [.i _ hi]]=>prsR lo hi s
  | _=>.none
def vx:FSpec where
 pre args:=∃ s:ByteArray,s.size≤1048576∧args=[sArg s]
 res args:=match args with
  | [.val _ [.s s]]=>.tup [(false,[.s (decT s).1]),(false,[.b (decT s).2])]
  | _=>.none
def fW (o:Bool):FSpec where
 pre args:=∃ s:ByteArray,s.size≤1048576∧args=[sArg s,.val false [.i .u8 32]]
 res args:=match args with
  | [.val _ [.s s],_]=>.val false [.sl o 9 (ac (ah s))]
  | _=>.none
def pF:FSpec where
 pre args:=∃ s:ByteArray,s.size≤1048576∧args=[sArg s,sArg ⟨#[32]⟩]
 res args:=match args with
  | [.val _ [.s s],_]=>.val false [.sl false 9 (ac (ah s))]
  | _=>.none
theorem resP {lo hi:Int} {s:ByteArray} {n:Int} {b:Bool} (h:prs lo hi s=(n,b)):[(false,[CV.i .i64 n]),(false,[CV.b b])]=[(false,[CV.i .i64 (prs lo hi s).1]),(false,[CV.b (prs lo hi s).2])]:=by rw [h]
theorem cm {s:ByteArray} {i:Nat} (h:i < s.size):s.data.toList[i]? = some (s.data.getD i 0):=by
 have hs:i < s.data.size:=h
 rw [jd9,Array.getD,dif_pos hs,jdI hs]
 rfl
theorem tW {s:ByteArray} (h0:decide ((s.size:Int) > 0)=true) (h:(((s.data.getD (Int.toNat 0) 0).toNat:Int) == 45)=true):s.data.toList.head? = some 45:=by
 have h1:0 < s.size:=by have:=jc6 h0;omega
 rw [List.head?_eq_getElem?,cm h1]
 have:(s.data.getD 0 0).toNat=45:=by have h2:((s.data.getD 0 0).toNat:Int)=45:=eq_of_beq h;omega
 exact congrArg some (UInt8.toNat_inj.1 this)
theorem ny {s:ByteArray} (h0:decide ((s.size:Int) > 0)=true) (h:(((s.data.getD (Int.toNat 0) 0).toNat:Int) == 45)=false):s.data.toList.head? ≠ some 45:=by
 have h1:0 < s.size:=by have:=jc6 h0;omega
 rw [List.head?_eq_getElem?,cm h1]
 intro e
 have h2:((s.data.getD 0 0).toNat:Int)=45:=by rw [jc9 e];rfl
 have h3:((s.data.getD 0 0).toNat:Int) ≠ 45:=by simpa using h
 exact h3 h2
theorem yD {s:ByteArray} (h:s.data.toList.head? = some 45):tlB s.data.toList=(s.extract (Int.toNat 1) (s.size:Int).toNat).data.toList:=by
 have hsz:s.data.toList.length=s.size:=by rw [jdn];rfl
 unfold tlB
 rw [if_pos h,jeX,je6,jeD,jds, ← hsz,jdZ]
 rfl
theorem jF {s:ByteArray} (h:s.data.toList.head? ≠ some 45):tlB s.data.toList=s.data.toList:=if_neg h
theorem yC {s t:ByteArray} (h:tlB s.data.toList=t.data.toList):(tlB s.data.toList).length=t.size:=by rw [h,jdn];rfl
def RI (t:ByteArray) (N i:Nat):Prop:=Lib.decFrom 0 (t.data.toList.take i)=some N∧N < 10 ^ i∧i≤t.size
theorem RI.zero (t:ByteArray):RI t 0 0:=⟨rfl,by decide,jc7 _⟩
theorem RI.small {t:ByteArray} {N i:Nat} (h:RI t N i) (ht:t.size≤12):N < 1000000000000:=jd4 h.2.1 (jdd (Nat.pow_le_pow_right (by decide) (jdd h.2.2 ht)) (by decide))
theorem RI.less {t:ByteArray} {N i:Nat} (h:RI t N i) (hi:i < t.size) (ht:t.size≤12):N < 100000000000:=jd4 h.2.1 (jdd (Nat.pow_le_pow_right (by decide) (show i≤11 by omega)) (by decide))
theorem RI.next {t:ByteArray} {N i:Nat} (h:RI t N i) (hi:i < t.size) (h1:¬ (t.data.getD i 0).toNat < 48) (h2:¬ (t.data.getD i 0).toNat > 57):RI t (N * 10+((t.data.getD i 0).toNat - 48)) (i+1):=by
 refine ⟨sQ h.1 (cm hi) (by omega) (by omega),?_,hi⟩
 have:=h.2.1
 rw [Nat.pow_succ]
 omega
theorem RI.all {t:ByteArray} {N i:Nat} (h:RI t N i) (hi:¬ i < t.size):Lib.decFrom 0 t.data.toList=some N:=by
 have hsz:t.data.toList.length=t.size:=by rw [jdn];rfl
 have:=h.1
 rw [jdJ (by omega)] at this
 exact this
theorem RI.num {t:ByteArray} {N i:Nat} (h:RI t N i) (hi:i < t.size) (ht:t.size≤12) (h1:¬ (t.data.getD i 0).toNat < 48) (h2:¬ (t.data.getD i 0).toNat > 57) :
 IntKind.i64.wrap (IntKind.i64.wrap (10 * (N:Int))+IntKind.i64.wrap (IntKind.u8.wrap (((t.data.getD i 0).toNat:Int) - 48)))=((N * 10+((t.data.getD i 0).toNat - 48):Nat):Int):=by
 have hN:=h.less hi ht
 have e1:IntKind.u8.wrap (((t.data.getD i 0).toNat:Int) - 48)=((t.data.getD i 0).toNat:Int) - 48:=IntWalk.u8_in _ (by omega)
 have e2:IntKind.i64.wrap (((t.data.getD i 0).toNat:Int) - 48)=((t.data.getD i 0).toNat:Int) - 48:=IntWalk.i64_in _ (by omega)
 have e3:IntKind.i64.wrap (10 * (N:Int))=10 * (N:Int):=IntWalk.i64_in _ (by omega)
 rw [e1,e2,e3,IntWalk.i64_in _ (by omega)]
 omega
theorem cQ {s t:ByteArray} (h:tlB s.data.toList=t.data.toList) (hd:decide ((t.size:Int) < 1)=true∨decide ((t.size:Int) > 12)=true):prs (-999999999999) 999999999999 s=(0,false):=by
 refine vI ?_
 rw [yC h]
 rcases hd with h1|h1
 · have:=jc6 h1;omega
 · have:=jc6 h1;omega
theorem tV {s:ByteArray} (h0:decide ((s.size:Int) > 0)=false):s.data.toList.head? ≠ some 45:=by
 have h1:s.size=0:=by have:=jdh h0;omega
 have h2:s.data.toList=[]:=jdD.1 (by rw [jdn];exact h1)
 rw [h2]
 simp
theorem gF {s t:ByteArray} {i:Nat} (h:tlB s.data.toList=t.data.toList) (hi:i < t.size) (hd:decide (((t.data.getD (Int.toNat (i:Int)) 0).toNat:Int) < 48)=true∨decide (((t.data.getD (Int.toNat (i:Int)) 0).toNat:Int) > 57)=true) (lo hi' : Int):prs lo hi' s=(0,false):=by
 refine vJ (i:=i) (b:=t.data.getD i 0) (by rw [h];exact cm hi) ?_ _ _
 rcases hd with h1|h1
 · exact .inl (by have:=jc6 h1;rw [jds] at this;omega)
 · exact .inr (by have:=jc6 h1;rw [jds] at this;omega)
theorem xR {t:ByteArray} {i:Nat} (h1:decide (((t.data.getD (Int.toNat (i:Int)) 0).toNat:Int) < 48)=false) (h2:decide (((t.data.getD (Int.toNat (i:Int)) 0).toNat:Int) > 57)=false) :
 ¬ (t.data.getD i 0).toNat < 48∧¬ (t.data.getD i 0).toNat > 57:=by
 have h3:=jdh h1
 have h4:=jdh h2
 rw [jds] at h3 h4
 exact ⟨by omega,by omega⟩
theorem m8 {s:ByteArray} {lo hi n n' : Int} (hn:n' = n) (hd:prs lo hi s=if aB n=s then (n,true) else (0,false)) (h:(!(aB n').toList == s.toList)=true):prs lo hi s=(0,false):=by
 subst hn
 rw [hd,if_neg]
 intro e
 rw [e] at h
 simp at h
theorem m9 {s:ByteArray} {lo hi n n' : Int} (hn:n' = n) (hd:prs lo hi s=if aB n=s then (n,true) else (0,false)) (h:(!(aB n').toList == s.toList)=false):prs lo hi s=(n',true):=by
 subst hn
 rw [hd,if_pos]
 have h2:((aB n').toList == s.toList)=true:=by simpa using h
 exact (aW _ _).mp (eq_of_beq h2)
theorem jbn {f:Int→Int→Snap} {r r' a b:Int} (h:r=r') (h2:a=b):f r a=f r' b:=by rw [h,h2]
abbrev wAt (rows:List (List D)) (k:Nat):ByteArray:=((rows.getD k []).getD 0 default).str
def SmW (rows:List (List D)):Prop:=∀ k,k < rows.length→(wAt rows k).size≤1048576
noncomputable def numS (rows:List (List D)) (k:Nat):Int:=if k < rows.length then (prs (-999999999999) 999999999999 (wAt rows k)).1 else 0
def txtS (rows:List (List D)) (k:Nat):ByteArray:=if k < rows.length then (decT (wAt rows k)).1 else ⟨#[]⟩
abbrev curS (rows:List (List D)) (k:Int):SV:=.tup [(true,[.sl true 9 rows,.i .i64 k])]
noncomputable def w9:FSpec where
 pre args:=∃ (rows:List (List D)) (k:Nat),k≤4611686018427387904∧SmW rows∧args=[curS rows k]
 bx:=true
 res args:=match args with
  | [.tup [(_,[.sl _ _ rows,.i _ k])]]=>iArg (numS rows k.toNat)
  | _=>.none
 upd args:=match args with
  | [.tup [(_,[.sl _ _ rows,.i _ k])]]=>[.sl true 9 rows,.i .i64 (k+1)]
  | _=>[]
def wZ:FSpec where
 pre args:=∃ (rows:List (List D)) (k:Nat),k≤4611686018427387904∧SmW rows∧args=[curS rows k]
 bx:=true
 res args:=match args with
  | [.tup [(_,[.sl _ _ rows,.i _ k])]]=>sArg (txtS rows k.toNat)
  | _=>.none
 upd args:=match args with
  | [.tup [(_,[.sl _ _ rows,.i _ k])]]=>[.sl true 9 rows,.i .i64 (k+1)]
  | _=>[]
abbrev scn (rows:List (List D)) (b:Bool):SV:=.tup [(true,[.sl false 9 rows,.b b])]
def hdW (rows:List (List D)):ByteArray:=if rows.length=0 then ⟨#[]⟩ else wAt rows 0
def okW (rows:List (List D)) (b:Bool):Bool:=if rows.length=0 then false else b
noncomputable abbrev gN (rows:List (List D)):Int × Bool:=prs (-1000000000) 1000000000 (hdW rows)
def rT:FSpec where
 pre args:=∃ (rows:List (List D)) (b:Bool),args=[scn rows b]
 bx:=true
 res args:=match args with
  | [.tup [(_,[.sl _ _ rows,.b b])]]=>sArg (hdW rows)
  | _=>.none
 upd args:=match args with
  | [.tup [(_,[.sl _ _ rows,.b b])]]=>[.sl false 9 (rows.drop 1),.b (okW rows b)]
  | _=>[]
noncomputable def xe:FSpec where
 pre args:=∃ (rows:List (List D)) (b:Bool),SmW rows∧args=[scn rows b]
 bx:=true
 res args:=match args with
  | [.tup [(_,[.sl _ _ rows,.b b])]]=>iArg (gN rows).1
  | _=>.none
 upd args:=match args with
  | [.tup [(_,[.sl _ _ rows,.b b])]]=>[.sl false 9 (rows.drop 1),.b (okW rows b && (gN rows).2)]
  | _=>[]
def xa:FSpec where
 pre args:=∃ (rows:List (List D)) (b:Bool),SmW rows∧args=[scn rows b]
 bx:=true
 res args:=match args with
  | [.tup [(_,[.sl _ _ rows,.b b])]]=>sArg (decT (hdW rows)).1
  | _=>.none
 upd args:=match args with
  | [.tup [(_,[.sl _ _ rows,.b b])]]=>[.sl false 9 (rows.drop 1),.b (okW rows b && (decT (hdW rows)).2)]
  | _=>[]
theorem mw {rows:List (List D)} (h:SmW rows):(hdW rows).size≤1048576:=by
 unfold hdW
 split
 · exact jc7 _
 · exact h 0 (by omega)
theorem vO {rows:List (List D)} {k:Nat} (h:decide ((k:Int) < (rows.length:Int))=true):(prs (-999999999999) 999999999999 (wAt rows (Int.toNat (k:Int)))).1=numS rows (Int.toNat (k:Int)):=by
 have h1:=jc6 h
 unfold numS
 rw [jds,if_pos (by omega)]
theorem zi {rows:List (List D)} {k:Nat} (h:decide ((k:Int) < (rows.length:Int))=false):0=numS rows (Int.toNat (k:Int)):=by
 have h1:=jdh h
 unfold numS
 rw [jds,if_neg (by omega)]
theorem vf {rows:List (List D)} {k:Nat} (h:decide ((k:Int) < (rows.length:Int))=true):(decT (wAt rows (Int.toNat (k:Int)))).1=txtS rows (Int.toNat (k:Int)):=by
 have h1:=jc6 h
 unfold txtS
 rw [jds,if_pos (by omega)]
theorem yw {rows:List (List D)} {k:Nat} (h:decide ((k:Int) < (rows.length:Int))=false):⟨#[]⟩=txtS rows (Int.toNat (k:Int)):=by
 have h1:=jdh h
 unfold txtS
 rw [jds,if_neg (by omega)]
theorem zJ {rows:List (List D)} (h:((rows.length:Int) == 0)=false):wAt rows (Int.toNat 0)=hdW rows∧rows.length ≠ 0:=by
 have h1:(rows.length:Int) ≠ 0:=by simpa using h
 have h2:rows.length ≠ 0:=by omega
 exact ⟨by unfold hdW;rw [if_neg h2];rfl,h2⟩
theorem jcp {rows:List (List D)} (h:((rows.length:Int) == 0)=true):⟨#[]⟩=hdW rows∧rows.length=0:=by
 have h1:(rows.length:Int)=0:=eq_of_beq h
 have h2:rows.length=0:=by omega
 exact ⟨by unfold hdW;rw [if_pos h2],h2⟩
theorem updNo {rows:List (List D)} {b:Bool} (h:rows.length=0):[CV.sl false 9 rows,CV.b false]=[CV.sl false 9 (rows.drop 1),CV.b (okW rows b)]:=by
 have:rows=[]:=jdD.1 h
 subst this
 rfl
theorem jaw {rows:List (List D)} {b:Bool} (h:rows.length ≠ 0):[CV.sl false 9 (List.drop (Int.toNat 1) (List.take ((rows.length:Int)).toNat rows)),CV.b b]=[CV.sl false 9 (rows.drop 1),CV.b (okW rows b)]:=by
 unfold okW
 rw [if_neg h,jds,jdZ]
 rfl
theorem updK {rows:List (List D)} {k:Nat} (hk:k≤4611686018427387904):[CV.sl true 9 rows,CV.i .i64 (IntKind.i64.wrap ((k:Int)+1))]=[CV.sl true 9 rows,CV.i .i64 ((k:Int)+1)]:=by
 rw [IntWalk.i64_in _ (by omega)]
theorem updB {rows:List (List D)} {x y:Bool} (h:x=y):[CV.sl false 9 rows,CV.b x]=[CV.sl false 9 rows,CV.b y]:=by rw [h]
def SpI (s:ByteArray) (o:List ByteArray) (fr i:Nat):Prop :=
 o.length≤i∧((i≤s.size∧fr≤i∧aG (s.data.toList.take i)=o.map (·.data.toList)++[(s.extract fr i).data.toList])∨(i=s.size+1∧o=ah s))
theorem ext_list (s:ByteArray) (a b:Nat):(s.extract a b).data.toList=(s.data.toList.take b).drop a:=by
 rw [jeX,je6,jeD]
theorem SpI.zero (s:ByteArray):SpI s [] 0 0:=⟨jdm _,.inl ⟨jc7 _,jdm _,by rw [ext_list];rfl⟩⟩
theorem SpI.full {s:ByteArray} {o:List ByteArray} {fr i:Nat} (h:SpI s o fr i) (hi:i=s.size):SpI s (o++[s.extract fr i]) (i+1) (i+1):=by
 have hs:s.data.toList.length=s.size:=by rw [jdn];rfl
 obtain ⟨h0,⟨_,h2,h3⟩|⟨h2,_⟩⟩:=h
 · refine ⟨by rw [jc8,jei];omega,.inr ⟨by omega,?_⟩⟩
   rw [jdJ (by omega)] at h3
   unfold ah
   have e1:∀ x:ByteArray,(⟨x.data.toList.toArray⟩:ByteArray)=x:=fun x=>by simp
   rw [h3,jen,jev]
   have e2:(o.map ((fun w:List UInt8=>(⟨w.toArray⟩:ByteArray)) ∘ fun x=>x.data.toList))=o:=by
    conv=>rhs;rw [← List.map_id o]
    exact jeB fun x _=>e1 x
   rw [e2,jfa,e1]
 · omega
theorem jI {s:ByteArray} {i:Nat} (hi:i < s.size):s.data.toList.take (i+1)=s.data.toList.take i++[s.data.getD i 0]:=by
 rw [jd5,cm hi];rfl
theorem SpI.space {s:ByteArray} {o:List ByteArray} {fr i:Nat} (h:SpI s o fr i) (hi:i < s.size) (hb:s.data.getD i 0=32):SpI s (o++[s.extract fr i]) (i+1) (i+1):=by
 obtain ⟨h0,⟨_,h2,h3⟩|⟨h2,_⟩⟩:=h
 · refine ⟨by rw [jc8,jei];omega,.inl ⟨hi,jdm _,?_⟩⟩
   rw [jI hi,ep _ _ _ _ h3,if_pos hb,jen,ext_list s (i+1) (i+1),List.drop_of_length_le (by rw [jdp];omega)]
   rfl
 · omega
theorem SpI.miss {s:ByteArray} {o:List ByteArray} {fr i:Nat} (h:SpI s o fr i) (hi:i < s.size) (hb:s.data.getD i 0 ≠ 32):SpI s o fr (i+1):=by
 have hs:s.data.toList.length=s.size:=by rw [jdn];rfl
 obtain ⟨h0,⟨_,h2,h3⟩|⟨h2,_⟩⟩:=h
 · refine ⟨by omega,.inl ⟨hi,by omega,?_⟩⟩
   rw [jI hi,ep _ _ _ _ h3,if_neg hb,ext_list,ext_list,jI hi,List.drop_append_of_le_length (by rw [jdp];omega)]
 · omega
theorem SpI.done {s:ByteArray} {o:List ByteArray} {fr i:Nat} (h:SpI s o fr i) (hi:¬ i≤s.size):o=ah s:=by
 obtain ⟨_,⟨h1,_⟩|⟨_,h3⟩⟩:=h
 · omega
 · exact h3
theorem SpI.le {s:ByteArray} {o:List ByteArray} {fr i:Nat} (h:SpI s o fr i) (hi:i≤s.size):fr≤i∧o.length≤i:=by
 obtain ⟨h0,⟨_,h2,_⟩|⟨h2,_⟩⟩:=h
 · exact ⟨h2,h0⟩
 · omega
theorem fO (o:List ByteArray) (x:ByteArray):ac o++([]++[[D.s x]])=ac (o++[x]):=by simp [ac]
theorem vy {f:List (List D)→Int→Int→Snap} {r r' : List (List D)} {a a' b b' : Int} (h:r=r') (h2:a=a') (h3:b=b'):f r a b=f r' a' b' := by rw [h,h2,h3]
theorem byte_of {s:ByteArray} {i:Nat} {x:Bool} (h:(((s.data.getD (Int.toNat (i:Int)) 0).toNat:Int) == 32)=x):(x=true→s.data.getD i 0=32)∧(x=false→s.data.getD i 0 ≠ 32):=by
 rw [jds] at h
 refine ⟨fun hx=>?_,fun hx e=>?_⟩
 · rw [hx] at h
   have h2:((s.data.getD i 0).toNat:Int)=32:=eq_of_beq h
   have h3:(s.data.getD i 0).toNat=32:=by omega
   exact UInt8.toNat_inj.1 h3
 · rw [hx,e] at h
   exact absurd h (by decide)
end Go.Proofs.YtdkofgjbbdbglaaGreatDoor.Ab
