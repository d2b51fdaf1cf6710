/- A part. -/
import Derived.Test.YtdjfhmghebommaaGreatDoorDZa
namespace Go.Proofs.YtdjfhmghebommaaGreatDoor.Ab
open Go.RowKit
set_option linter.all false
section
variable {T:Tab}
def spTx (T:Tab) (cts:List CT) (Sm:List D→Prop) (g:List D→ByteArray):FSpec where
 pre args:=∃ a:List D,WfRow T cts a∧Sm a∧args=[argG cts a]
 res args:=match args with
  | [.val _ cs]=>.val false [.s (g (csD cs))]
  | _=>.none
end
section
variable {T:Tab}
abbrev opOf (a0 a1 a2:Int) (seen:List (List D)) (e0 e1 c0 c1 c2:Int) (nm cd:ByteArray) (cn:Int) (fr to:ByteArray) (ce ve:Int) (rd:List (List D)):List D :=
 [.i a0,.i a1,.i a2,.l seen,.i e0,.i e1,.i c0,.i c1,.i c2,.s nm,.s cd,.i cn,.s fr,.s to,.i ce,.i ve,.l rd]
abbrev bw:List D:=opOf 0 0 0 [] 0 0 0 0 0 ES ES 0 ES ES 0 0 []
def poOf (o:List D) (e:Bool) (s:ByteArray):List D × Bool:=if e=true∧(aZ o).toList=s.toList then (o,true) else (bw,false)
section
variable (pv:ByteArray→List D × Bool) (rows:List (List D))
noncomputable def fy (i:Nat):List (List D):=(List.range i).map fun j=>[.i (numS rows (3+j))]
noncomputable def rowS (k:Nat):List D:=[.i (numS rows k),.i (numS rows (k+1)),.i (numS rows (k+2)),.s (txtS rows (k+3))]++(pv (txtS rows (k+4))).1
noncomputable def rdsS (c:Int):Nat→Nat→List (List D)→List (List D)
 | 0,_,out=>out
 | m+1,i,out=>if (i:Int) < c∧19+5 * i < rows.length then rdsS c m (i+1) (out++[rowS pv rows (19+5 * i)]) else out
noncomputable def opS (rd:List (List D)):List D :=
 opOf (numS rows 0) (numS rows 1) (numS rows 2) (fy rows 3) (numS rows 6) (numS rows 7) (numS rows 8) (numS rows 9) (numS rows 10) (txtS rows 12) (txtS rows 13) (numS rows 11) (txtS rows 14) (txtS rows 15) (numS rows 16) (numS rows 17) rd
def dr:Nat→List (List D)→List (List D)
 | 0,r=>r
 | j+1,r=>(dr j r).drop 1
noncomputable def ok1 (r:List (List D)) (b:Bool):Bool:=okW r b && (gP r).2
def ok2 (r:List (List D)) (b:Bool):Bool:=okW r b && (decT (hdW r)).2
noncomputable def okN:Nat→Bool
 | 0=>true
 | j+1=>if 12≤j∧j < 16 then ok2 (dr j rows) (okN j) else ok1 (dr j rows) (okN j)
noncomputable abbrev numi (j:Nat):Int:=(gP (dr j rows)).1
abbrev txti (j:Nat):ByteArray:=(decT (hdW (dr j rows))).1
noncomputable def ix (i:Nat):List (List D):=(List.range i).map fun j=>[.i (numi rows (3+j))]
noncomputable def opI (rd:List (List D)):List D :=
 opOf (numi rows 0) (numi rows 1) (numi rows 2) (ix rows 3) (numi rows 6) (numi rows 7) (numi rows 8) (numi rows 9) (numi rows 10) (txti rows 12) (txti rows 13) (numi rows 11) (txti rows 14) (txti rows 15) (numi rows 16) (numi rows 17) rd
noncomputable def rowI (r:List (List D)):List D:=[.i (gP r).1,.i (gP (dr 1 r)).1,.i (gP (dr 2 r)).1,.s (decT (hdW (dr 3 r))).1]++(pv (decT (hdW (dr 4 r))).1).1
noncomputable def ok5 (r:List (List D)) (b:Bool):Bool:=ok2 (dr 4 r) (ok2 (dr 3 r) (ok1 (dr 2 r) (ok1 (dr 1 r) (ok1 r b))))
noncomputable def rdsI (c:Int):Nat→Nat→List (List D)→Bool→List (List D)→List (List D) × Bool × List (List D)
 | 0,_,r,b,out=>(r,b,out)
 | m+1,i,r,b,out=>if (i:Int) < c∧b=true then rdsI c m (i+1) (dr 5 r) (ok5 r b) (out++[rowI pv r]) else (r,b,out)
end
noncomputable def poS (pv:ByteArray→List D × Bool) (s:ByteArray):List D × Bool :=
 poOf (opS (ae (aj s)) (rdsS pv (ae (aj s)) (numS (ae (aj s)) 18) ((ae (aj s)).length+1) 0 [])) (!(s.toList == [])) s
noncomputable def poI (pv:ByteArray→List D × Bool) (s:ByteArray):List D × Bool :=
 poOf (opI (ae (aj s)) (rdsI pv (numi (ae (aj s)) 18) ((ae (aj s)).length+2) 0 (dr 19 (ae (aj s))) (okN (ae (aj s)) 19) []).2.2)
  ((rdsI pv (numi (ae (aj s)) 18) ((ae (aj s)).length+2) 0 (dr 19 (ae (aj s))) (okN (ae (aj s)) 19) []).2.1 && ((rdsI pv (numi (ae (aj s)) 18) ((ae (aj s)).length+2) 0 (dr 19 (ae (aj s))) (okN (ae (aj s)) 19) []).1.length == 0)) s
noncomputable def zN:FSpec where
 pre args:=∃ (rows:List (List D)) (k:Int),0≤k∧k≤1099511627776∧SmW rows∧args=[curS rows k]
 bx:=true
 res args:=match args with
  | [.tup [(_,[.sl _ _ rows,.i _ k])]]=>iArg (numS rows k.toNat)
  | _=>.none
 upd args:=match args with
  | [.tup [(_,[.sl _ _ rows,.i _ k])]]=>[.sl true 9 rows,.i .i64 (k+1)]
  | _=>[]
def zM:FSpec where
 pre args:=∃ (rows:List (List D)) (k:Int),0≤k∧k≤1099511627776∧SmW rows∧args=[curS rows k]
 bx:=true
 res args:=match args with
  | [.tup [(_,[.sl _ _ rows,.i _ k])]]=>sArg (txtS rows k.toNat)
  | _=>.none
 upd args:=match args with
  | [.tup [(_,[.sl _ _ rows,.i _ k])]]=>[.sl true 9 rows,.i .i64 (k+1)]
  | _=>[]
theorem FOk.wi2 {P:Program} {f:FuncId} (h:FOk P T f vW):FOk P T f zN:=by
 refine ⟨h.call,fun _ _ w X b ob cs args vals a1 a2 a3 a4 a5 a6 a7 a8 hpre=>?_,fun hb=>(by cases hb),fun _ hb=>(by cases hb)⟩
 obtain ⟨rows,k,h0,h1,hs,he⟩:=hpre
 obtain ⟨k,rfl⟩:=jcP h0
 exact h.okb rfl rfl w X b ob cs args vals a1 a2 a3 a4 a5 a6 a7 a8 ⟨rows,k,by omega,hs,he⟩
theorem FOk.wt2 {P:Program} {f:FuncId} (h:FOk P T f vU):FOk P T f zM:=by
 refine ⟨h.call,fun _ _ w X b ob cs args vals a1 a2 a3 a4 a5 a6 a7 a8 hpre=>?_,fun hb=>(by cases hb),fun _ hb=>(by cases hb)⟩
 obtain ⟨rows,k,h0,h1,hs,he⟩:=hpre
 obtain ⟨k,rfl⟩:=jcP h0
 exact h.okb rfl rfl w X b ob cs args vals a1 a2 a3 a4 a5 a6 a7 a8 ⟨rows,k,by omega,hs,he⟩
def iv (cts:List CT) (pv:ByteArray→List D × Bool):FSpec where
 pre args:=∃ s:ByteArray,s.size≤1048576∧args=[sArg s]
 res args:=match args with
  | [.val _ [.s s]]=>.tup [(true,rowC cts (pv s).1),(false,[.b (pv s).2])]
  | _=>.none
theorem FOk.pv2 {P:Program} {f:FuncId} {cts:List CT} {n:Nat} {pv:ByteArray→List D × Bool} (hn:1048577≤n) (h:FOk P T f (spPV cts n pv)):FOk P T f (iv cts pv):=by
 refine ⟨h.call,fun hb=>(by cases hb),fun _ w X args vals a1 a2 a3 hpre=>?_,fun hb=>(by cases hb)⟩
 obtain ⟨s,hs,he⟩:=hpre
 exact h.ok rfl w X args vals a1 a2 a3 ⟨s,hs,by omega,he⟩
theorem qE (rows:List (List D)) (i:Nat):fy rows i++[[.i (numS rows (3+i))]]=fy rows (i+1):=by
 unfold fy;rw [List.range_succ,jc5];rfl
theorem qF (rows:List (List D)) (i:Nat):ix rows i++[[.i (numi rows (3+i))]]=ix rows (i+1):=by
 unfold ix;rw [List.range_succ,jc5];rfl
theorem ci {rows:List (List D)} (h:SmW rows) (k:Nat):(txtS rows k).size≤1048576:=by
 unfold txtS
 split
 · rename_i hk;exact jbV (mw _) (h k hk)
 · exact jbP _
theorem smW (s:ByteArray) (hs:s.size≤1048576):SmW (ae (aj s)):=by
 intro k hk
 rw [aB] at hk
 have e:wAt (ae (aj s)) k=(aj s)[k]:=by
  simp [wAt,ae,jbT,jbN hk,D.str]
 rw [e]
 exact jbV (dO (jde hk)) hs
theorem j4 (s:ByteArray) (hs:s.size≤1048576):(ae (aj s)).length≤1048577:=by
 rw [aB];have:=gj s;omega
theorem s4 {o:List D} {e:Bool} {s:ByteArray} (h:e=false):poOf o e s=(bw,false):=by
 unfold poOf;rw [if_neg (fun x=>by rw [h] at x;cases x.1)]
theorem ww {o:List D} {e:Bool} {s:ByteArray} (h:(!(aZ o).toList == s.toList)=true):poOf o e s=(bw,false):=by
 unfold poOf;rw [if_neg (fun x=>by rw [x.2] at h;simp at h)]
theorem wn {o:List D} {e:Bool} {s:ByteArray} (he:e=true) (h:(!(aZ o).toList == s.toList)=false):poOf o e s=(o,true):=by
 unfold poOf;rw [if_pos ⟨he,eq_of_beq (aA h)⟩]
theorem jaF {pv:ByteArray→List D × Bool} {s:ByteArray} {rw_:List (List D)} (h:ae (aj s)=rw_):poS pv s=poOf (opS rw_ (rdsS pv rw_ (numS rw_ 18) (rw_.length+1) 0 [])) (!(s.toList == [])) s:=by
 subst h;rfl
theorem jaH {pv:ByteArray→List D × Bool} {s:ByteArray} {rw_:List (List D)} (h:ae (aj s)=rw_):poI pv s=poOf (opI rw_ (rdsI pv (numi rw_ 18) (rw_.length+2) 0 (dr 19 rw_) (okN rw_ 19) []).2.2)
 ((rdsI pv (numi rw_ 18) (rw_.length+2) 0 (dr 19 rw_) (okN rw_ 19) []).2.1 && ((rdsI pv (numi rw_ 18) (rw_.length+2) 0 (dr 19 rw_) (okN rw_ 19) []).1.length == 0)) s:=by
 subst h;rfl
end
theorem i7:∀ (j:Nat) (r:List (List D)),(dr j r).length=r.length - j
 | 0,r=>rfl
 | j+1,r=>by rw [dr,jct,i7 j r];omega
theorem SmW.drop {r:List (List D)} (h:SmW r):SmW (r.drop 1):=by
 intro k hk
 rw [jct] at hk
 have e:wAt (r.drop 1) k=wAt r (k+1):=by
  have e2:(r.drop 1).getD k []=r.getD (k+1) []:=by
   rw [jbT,jbT,jcY,Nat.add_comm]
  unfold wAt
  rw [e2]
 rw [e]
 exact h _ (by omega)
theorem SmW.dr {r:List (List D)} (h:SmW r):∀ j,SmW (Ab.dr j r)
 | 0=>h
 | j+1=>(SmW.dr h j).drop
theorem okN_num {r:List (List D)} {j:Nat} (h:j < 12):okN r (j+1)=ok1 (dr j r) (okN r j):=by rw [okN,if_neg (by omega)]
theorem ok1_T {r:List (List D)} {b:Bool} (h:ok1 r b=true):r.length ≠ 0∧b=true∧(gP r).2=true:=by
 unfold ok1 okW at h
 rw [jb1] at h
 split at h
 · cases h.1
 · exact ⟨by assumption,h.1,h.2⟩
theorem ok2_T {r:List (List D)} {b:Bool} (h:ok2 r b=true):r.length ≠ 0∧b=true∧(decT (hdW r)).2=true:=by
 unfold ok2 okW at h
 rw [jb1] at h
 split at h
 · cases h.1
 · exact ⟨by assumption,h.1,h.2⟩
theorem ok5_T {r:List (List D)} {b:Bool} (h:ok5 r b=true):5≤r.length∧b=true:=by
 unfold ok5 at h
 have h4:=ok2_T h
 have h3:=ok2_T h4.2.1
 have h2:=ok1_T h3.2.1
 have h1:=ok1_T h2.2.1
 have h0:=ok1_T h1.2.1
 have:=h4.1
 rw [i7] at this
 exact ⟨by omega,h0.2.1⟩
theorem dy {r:List (List D)} (h:SmW r):(decT (hdW r)).1.size≤1048576:=jbV (mw _) (mm h)
theorem m7 {pv:ByteArray→List D × Bool} {c:Int} {m i:Nat} {r:List (List D)} {b:Bool} {out:List (List D)} (h:¬ ((i:Int) < c∧b=true)):rdsI pv c m i r b out=(r,b,out):=by
 cases m with
 | zero=>rfl
 | succ m=>rw [rdsI,if_neg h]
theorem sO {pv:ByteArray→List D × Bool} {c:Int} {m i:Nat} {r:List (List D)} {out:List (List D)} (h1:(i:Int) < c):rdsI pv c (m+1) i r true out=rdsI pv c m (i+1) (dr 5 r) (ok5 r true) (out++[rowI pv r]):=by
 rw [rdsI,if_pos ⟨h1,rfl⟩]
theorem jaf {f:List (List D)→List (List D)→Bool→Int→Snap} {r r' q q' : List (List D)} {b b' : Bool} {k k' : Int} (h:r=r') (h1:q=q') (h2:b=b') (h3:k=k'):f r q b k=f r' q' b' k' := by rw [h,h1,h2,h3]
structure PvOk (pv:ByteArray→List D × Bool):Prop where
 len:∀ w,(pv w).1.length=7
 back:∀ w,((pv w).1.getD 0 default).int=1∨((pv w).1.getD 0 default).int=6→bI (pv w).1=w
theorem jbj {v:List D} (hk:(v.getD 0 default).int=1∨(v.getD 0 default).int=6):fmtV v=bI v:=by
 rw [cq]
 unfold cz
 rcases hk with h|h
 · rw [if_pos h,mn h]
 · have h' : iAt v 0=6:=h
   rw [if_neg (by omega),if_neg (by omega),if_neg (by omega),if_neg (by omega),if_pos h',mo h]
theorem sU {v:List D} (hc:Can v) (e:Bool) (w:ByteArray):(pvOf v e w).1.length=7∧(((pvOf v e w).1.getD 0 default).int=1∨((pvOf v e w).1.getD 0 default).int=6→bI (pvOf v e w).1=w):=by
 cases h:(pvOf v e w).2 with
 | false =>
   rw [sW h]
   exact ⟨rfl,fun hk=>by rcases hk with hk|hk <;> exact absurd hk (by decide)⟩
 | true =>
   obtain ⟨_,_,hs,he⟩:=sV h
   rw [he]
   refine ⟨by cases hc <;> rfl,fun hk=>?_⟩
   rw [← jbj hk]
   apply jda
   apply jc7
   exact hs.symm
theorem jaz (n:Nat):PvOk (pvS n):=⟨fun w=>(sU (mA n 0) _ w).1,fun w=>(sU (mA n 0) _ w).2⟩
def RdF (pv:ByteArray→List D × Bool) (r:List D):Prop:=∃ (a b c:Int) (t w:ByteArray),r=[.i a,.i b,.i c,.s t]++(pv w).1
theorem m6 {pv:ByteArray→List D × Bool} {rows:List (List D)} {c:Int}:∀ (m i:Nat) (out:List (List D)),(∀ r ∈ out,RdF pv r)→∀ r ∈ rdsS pv rows c m i out,RdF pv r
 | 0,i,out,h,r,hr=>h r hr
 | m+1,i,out,h,r,hr=>by
   rw [rdsS] at hr
   split at hr
   · refine m6 m (i+1) _ (fun x hx=>?_) r hr
     rcases jco.1 hx with hx|hx
     · exact h x hx
     · obtain rfl:=jcF.1 hx
       exact ⟨_,_,_,_,_,rfl⟩
   · exact h r hr
theorem m8 {pv:ByteArray→List D × Bool} {c:Int}:∀ (m i:Nat) (q:List (List D)) (b:Bool) (out:List (List D)),(∀ r ∈ out,RdF pv r)→∀ r ∈ (rdsI pv c m i q b out).2.2,RdF pv r
 | 0,i,q,b,out,h,r,hr=>h r hr
 | m+1,i,q,b,out,h,r,hr=>by
   rw [rdsI] at hr
   split at hr
   · refine m8 m (i+1) _ _ _ (fun x hx=>?_) r hr
     rcases jco.1 hx with hx|hx
     · exact h x hx
     · obtain rfl:=jcF.1 hx
       exact ⟨_,_,_,_,_,rfl⟩
   · exact h r hr
theorem oV (b:UInt8):∀ x ∈ Lib.Hx.encode [b],x ≠ 32:=by
 have:∀ n:Fin 256, ∀ x ∈ Lib.Hx.encode [UInt8.ofNat n.val],x ≠ 32:=by decide +kernel
 have:=this ⟨b.toNat,b.toNat_lt⟩
 rwa [show UInt8.ofNat (⟨b.toNat,b.toNat_lt⟩:Fin 256).val=b by simp] at this
theorem nH (s:ByteArray):∀ x ∈ (encB s).data.toList,x ≠ 32:=by
 unfold encB
 split
 · intro x hx
   have:x=45:=by simpa using hx
   subst this;decide
 · have:∀ l:List UInt8, ∀ x ∈ Lib.Hx.encode l,x ≠ 32:=by
    intro l
    induction l with
    | nil=>intro x hx;cases hx
    | cons b l ih =>
      intro x hx
      have e:Lib.Hx.encode (b :: l)=Lib.Hx.encode [b]++Lib.Hx.encode l:=by simp [Lib.Hx.encode]
      rw [e] at hx
      rcases jco.1 hx with hx|hx
      · exact oV b x hx
      · exact ih x hx
   intro x hx
   exact this _ x (by simpa using hx)
theorem ne (n:Int):∀ x ∈ (aH n).data.toList,x ≠ 32:=by rw [bn];exact ni n
abbrev mU (a:List D):List (List D):=aM a (rds a).length
theorem iV (a:List D):∀ r ∈ mU a,(∃ n:Int,r=numW n)∨∃ s:ByteArray,r=encW s:=by
 intro r hr
 unfold mU aM dW dX at hr
 simp only [jco] at hr
 rcases hr with ((hr|hr)|hr)|hr
 · obtain ⟨x,_,rfl⟩:=jcw.1 hr
   exact .inl ⟨_,rfl⟩
 · simp only [jbW,jbS,or_false] at hr
   rcases hr with rfl|rfl|rfl|rfl <;> exact .inr ⟨_,rfl⟩
 · simp only [jbW,jbS,or_false] at hr
   rcases hr with rfl|rfl|rfl <;> exact .inl ⟨_,rfl⟩
 · obtain ⟨x,_,hr⟩:=jdo.1 hr
   unfold bj at hr
   simp only [jbW,jbS,or_false] at hr
   rcases hr with rfl|rfl|rfl|rfl|rfl
   · exact .inl ⟨_,rfl⟩
   · exact .inl ⟨_,rfl⟩
   · exact .inl ⟨_,rfl⟩
   · exact .inr ⟨_,rfl⟩
   · exact .inr ⟨_,rfl⟩
theorem ph {a:List D} {s:ByteArray} (hg:bv a=true) (h:(aZ a).toList=s.toList):ae (aj s)=mU a:=by
 rw [aS] at h
 subst h
 unfold aZ
 rw [if_pos hg,kY]
 · unfold ae strsOf
   rw [jdd]
   conv=>rhs;rw [← List.map_id (mU a)]
   refine jdj fun r hr=>?_
   rcases iV a r hr with ⟨n,rfl⟩|⟨t,rfl⟩ <;> rfl
 · intro e
   have:=congrArg List.length e
   rw [strsOf,jb0,bH (jb4 _)] at this
   simp at this
 · intro t ht
   obtain ⟨r,hr,rfl⟩:=jcw.1 ht
   rcases iV a r hr with ⟨n,rfl⟩|⟨t,rfl⟩
   · exact ne n
   · exact nH t
theorem inR9 {n:Int} (h:inR n (-1000000000) 1000000000=true):-1000000000≤n∧n≤1000000000:=by
 unfold inR at h
 rw [jb1,decide_eq_true_eq,decide_eq_true_eq] at h
 omega
theorem bM {W:List (List D)} {k:Nat} {n:Int} (h:inR n (-1000000000) 1000000000=true) (e:W[k]? = some (numW n)):numS W k=n:=by
 have hk:k < W.length:=(jbY.1 e).1
 unfold numS
 rw [if_pos hk,show wAt W k=aH n by unfold wAt;rw [show W.getD k []=numW n by rw [jbT,e];rfl];rfl]
 have:=inR9 h
 rw [eV (by omega) (by omega) rfl]
theorem im {W:List (List D)} {k:Nat} {t:ByteArray} (e:W[k]? = some (encW t)):txtS W k=t:=by
 have hk:k < W.length:=(jbY.1 e).1
 unfold txtS
 rw [if_pos hk,show wAt W k=encB t by unfold wAt;rw [show W.getD k []=encW t by rw [jbT,e];rfl];rfl,nN]
theorem kj {r:List (List D)} {n:Int} (h:inR n (-1000000000) 1000000000=true):gP (numW n :: r)=(n,true):=by
 have:=inR9 h
 exact eV (by omega) (by omega) rfl
theorem lK {r:List (List D)} {t:ByteArray}:decT (hdW (encW t :: r))=(t,true):=nN t
theorem ok1_c {r:List (List D)} {n:Int} (h:inR n (-1000000000) 1000000000=true):ok1 (numW n :: r) true=true:=by
 unfold ok1
 rw [kj h]
 rfl
theorem ok2_c {r:List (List D)} {t:ByteArray}:ok2 (encW t :: r) true=true:=by
 unfold ok2
 rw [lK]
 rfl
structure GoodForm (pv:ByteArray→List D × Bool) (a0 a1 a2 x y z e0 e1 c0 c1 c2:Int) (nm cd:ByteArray) (cn:Int) (fr tt:ByteArray) (ce ve:Int) (rd:List (List D)):Prop where
 n:∀ i ∈ [a0,a1,a2,x,y,z,e0,e1,c0,c1,c2,cn,ce,ve],inR i (-1000000000) 1000000000=true
 r:∀ r ∈ rd, ∃ (a b c:Int) (t:ByteArray) (v:List D),r=[.i a,.i b,.i c,.s t]++v∧v.length=7∧(pv (bI v)).1=v∧inR a (-1000000000) 1000000000=true∧inR b (-1000000000) 1000000000=true∧inR c (-1000000000) 1000000000=true
theorem sub7 {a b c:Int} {t:ByteArray} {v:List D} (h:v.length=7):sub ([.i a,.i b,.i c,.s t]++v) 4 7=v:=by
 match v,h with
 | [_,_,_,_,_,_,_],_=>rfl
theorem nw {pv:ByteArray→List D × Bool} (hp:PvOk pv) {a0 a1 a2 x y z e0 e1 c0 c1 c2:Int} {nm cd:ByteArray} {cn:Int} {fr tt:ByteArray} {ce ve:Int} {rd:List (List D)}
 (hr:∀ r ∈ rd,RdF pv r) (hg:bv (opOf a0 a1 a2 [[.i x],[.i y],[.i z]] e0 e1 c0 c1 c2 nm cd cn fr tt ce ve rd)=true):GoodForm pv a0 a1 a2 x y z e0 e1 c0 c1 c2 nm cd cn fr tt ce ve rd:=by
 unfold bv at hg
 rw [jb1,jb1] at hg
 have hn:=jcb.1 hg.2.1
 have hn' : ∀ i:Int,numI i ∈ aG (opOf a0 a1 a2 [[.i x],[.i y],[.i z]] e0 e1 c0 c1 c2 nm cd cn fr tt ce ve rd) (rds (opOf a0 a1 a2 [[.i x],[.i y],[.i z]] e0 e1 c0 c1 c2 nm cd cn fr tt ce ve rd)).length→inR i (-1000000000) 1000000000=true:=fun i h=>hn _ h
 have hd:aG (opOf a0 a1 a2 [[.i x],[.i y],[.i z]] e0 e1 c0 c1 c2 nm cd cn fr tt ce ve rd) (rds (opOf a0 a1 a2 [[.i x],[.i y],[.i z]] e0 e1 c0 c1 c2 nm cd cn fr tt ce ve rd)).length=[numI a0,numI a1,numI a2,numI x,numI y,numI z,numI e0,numI e1,numI c0,numI c1,numI c2,numI cn,numI ce,numI ve]++rd.flatMap eU:=by
  show _++(rd.take rd.length).flatMap eU=_
  rw [jcH]
  rfl
 rw [hd] at hn'
 refine ⟨fun i hi=>hn' i (jdv _ (by
  simp only [jbW,jbS,or_false] at hi ⊢
  rcases hi with rfl|rfl|rfl|rfl|rfl|rfl|rfl|rfl|rfl|rfl|rfl|rfl|rfl|rfl <;> simp)),fun r h=>?_⟩
 obtain ⟨a,b,c,t,w,rfl⟩:=hr r h
 have hk:=cy (jcb.1 hg.1 _ h)
 rw [sub7 (hp.len w)] at hk
 have hm:∀ i:Int,numI i ∈ eU ([.i a,.i b,.i c,.s t]++(pv w).1)→inR i (-1000000000) 1000000000=true:=fun i hi=>hn' i (List.mem_append_right _ (jdo.2 ⟨_,h,hi⟩))
 exact ⟨a,b,c,t,_,rfl,hp.len w,by rw [hp.back w hk],hm a (by simp [eU,ints,numI,D.int]),hm b (by simp [eU,ints,numI,D.int]),hm c (by simp [eU,ints,numI,D.int])⟩
section
variable {pv:ByteArray→List D × Bool} {a0 a1 a2 x y z e0 e1 c0 c1 c2:Int} {nm cd:ByteArray} {cn:Int} {fr tt:ByteArray} {ce ve:Int} {rd:List (List D)}
theorem mG:mU (opOf a0 a1 a2 [[.i x],[.i y],[.i z]] e0 e1 c0 c1 c2 nm cd cn fr tt ce ve rd) =
 numW a0 :: numW a1 :: numW a2 :: numW x :: numW y :: numW z :: numW e0 :: numW e1 :: numW c0 :: numW c1 :: numW c2 :: numW cn :: encW nm :: encW cd :: encW fr :: encW tt :: numW ce :: numW ve :: numW (rd.length:Int) :: rd.flatMap bj:=by
 show _++(rd.take rd.length).flatMap bj=_
 rw [jcH]
 rfl
theorem pR {a b c:Int} {t:ByteArray} {v:List D} (h:v.length=7):bj ([.i a,.i b,.i c,.s t]++v)=[numW a,numW b,numW c,encW t,encW (bI v)]:=by
 unfold bj
 rw [sub7 h]
 rfl
theorem getD_drop {W l:List (List D)} {k:Nat} (h:W.drop k=l) (j:Nat):W[k+j]? = l[j]? := by rw [← h,jcY]
theorem sN (h:∀ r ∈ rd, ∃ (a b c:Int) (t:ByteArray) (v:List D),r=[.i a,.i b,.i c,.s t]++v∧v.length=7∧(pv (bI v)).1=v∧inR a (-1000000000) 1000000000=true∧inR b (-1000000000) 1000000000=true∧inR c (-1000000000) 1000000000=true) {W:List (List D)} {n:Int} :
 ∀ (m i:Nat) (out:List (List D)),W.drop (19+5 * i)=rd.flatMap bj→(i:Int)+rd.length=n→rd.length≤m→rdsS pv W n m i out=out++rd:=by
 induction rd with
 | nil =>
   intro m i out hd hn hm
   have:¬ ((i:Int) < n∧19+5 * i < W.length):=by simp only [jcc] at hn;omega
   cases m with
   | zero=>simp [rdsS]
   | succ m=>rw [rdsS,if_neg this,jdc]
 | cons r l ih =>
   intro m i out hd hn hm
   obtain ⟨a,b,c,t,v,rfl,hv,hb,i1,i2,i3⟩:=h r (jcj ..)
   rw [jdI,pR hv] at hd
   have hlt:19+5 * i < W.length:=by
    apply Nat.lt_of_not_le
    intro hle
    rw [jdE hle] at hd
    cases hd
   rw [jb3] at hn hm
   obtain ⟨m,rfl⟩:∃ k,m=k+1:=⟨m - 1,by omega⟩
   rw [rdsS,if_pos ⟨by omega,hlt⟩]
   have er:rowS pv W (19+5 * i)=[.i a,.i b,.i c,.s t]++v:=by
    unfold rowS
    rw [bM (k:=19+5 * i) (n:=a) i1 (getD_drop hd 0),bM (n:=b) i2 (getD_drop hd 1),bM (n:=c) i3 (getD_drop hd 2),im (t:=t) (getD_drop hd 3),im (t:=bI v) (getD_drop hd 4),hb]
   rw [er,ih (fun r hr=>h r (jcx _ hr)) m (i+1) _ ?_ (by push_cast;omega) (by omega),jcu]
   · rfl
   · rw [show 19+5 * (i+1)=(19+5 * i)+5 by omega, ← List.drop_drop,hd];rfl
theorem sQ (h:∀ r ∈ rd, ∃ (a b c:Int) (t:ByteArray) (v:List D),r=[.i a,.i b,.i c,.s t]++v∧v.length=7∧(pv (bI v)).1=v∧inR a (-1000000000) 1000000000=true∧inR b (-1000000000) 1000000000=true∧inR c (-1000000000) 1000000000=true) {n:Int} :
 ∀ (m i:Nat) (out:List (List D)),(i:Int)+rd.length=n→rd.length≤m→rdsI pv n m i (rd.flatMap bj) true out=([],true,out++rd):=by
 induction rd with
 | nil =>
   intro m i out hn hm
   have:¬ ((i:Int) < n∧true=true):=by simp only [jcc] at hn;omega
   rw [m7 this,jdc]
   rfl
 | cons r l ih =>
   intro m i out hn hm
   obtain ⟨a,b,c,t,v,rfl,hv,hb,i1,i2,i3⟩:=h r (jcj ..)
   rw [jdI,pR hv]
   rw [jb3] at hn hm
   obtain ⟨m,rfl⟩:∃ k,m=k+1:=⟨m - 1,by omega⟩
   rw [sO (by omega)]
   have er:rowI pv ([numW a,numW b,numW c,encW t,encW (bI v)]++l.flatMap bj)=[.i a,.i b,.i c,.s t]++v:=by
    unfold rowI
    show [D.i (gP (numW a :: _)).1,.i (gP (numW b :: _)).1,.i (gP (numW c :: _)).1,.s (decT (hdW (encW t :: _))).1]++(pv (decT (hdW (encW (bI v) :: _))).1).1=_
    rw [kj i1,kj i2,kj i3,lK,lK,hb]
   have eo:ok5 ([numW a,numW b,numW c,encW t,encW (bI v)]++l.flatMap bj) true=true:=by
    unfold ok5
    show ok2 (encW (bI v) :: _) (ok2 (encW t :: _) (ok1 (numW c :: _) (ok1 (numW b :: _) (ok1 (numW a :: _) true))))=true
    rw [ok1_c i1,ok1_c i2,ok1_c i3,ok2_c,ok2_c]
   rw [er,eo]
   show rdsI pv n m (i+1) (l.flatMap bj) true _=_
   rw [ih (fun r hr=>h r (jcx _ hr)) m (i+1) _ (by push_cast;omega) (by omega),jcu]
   rfl
theorem vh (g:GoodForm pv a0 a1 a2 x y z e0 e1 c0 c1 c2 nm cd cn fr tt ce ve rd) (hl:rd.length≤1048577) {W:List (List D)}
 (hW:W=numW a0 :: numW a1 :: numW a2 :: numW x :: numW y :: numW z :: numW e0 :: numW e1 :: numW c0 :: numW c1 :: numW c2 :: numW cn :: encW nm :: encW cd :: encW fr :: encW tt :: numW ce :: numW ve :: numW (rd.length:Int) :: rd.flatMap bj) :
 opS W (rdsS pv W (numS W 18) (W.length+1) 0 [])=opOf a0 a1 a2 [[.i x],[.i y],[.i z]] e0 e1 c0 c1 c2 nm cd cn fr tt ce ve rd:=by
 have n:=g.n
 simp only [jbW,jbS,or_false,forall_eq_or_imp,forall_eq] at n
 obtain ⟨n0,n1,n2,n3,n4,n5,n6,n7,n8,n9,n10,n11,n14,n15⟩:=n
 have nl:inR (rd.length:Int) (-1000000000) 1000000000=true:=by unfold inR;simp only [jb1,decide_eq_true_eq];omega
 have hlen:rd.length≤W.length+1:=by
  rw [hW]
  simp only [jb3,gZ bj 5 (fun _=>rfl)]
  omega
 have r:rdsS pv W (numS W 18) (W.length+1) 0 []=rd:=by
  rw [bM (k:=18) nl (by rw [hW];rfl),sN g.r (W.length+1) 0 [] (by rw [hW];rfl) (by simp) hlen,jbX]
 rw [r]
 have es:fy W 3=[[.i (numS W 3)],[.i (numS W 4)],[.i (numS W 5)]]:=rfl
 unfold opS
 rw [es,bM (k:=0) n0 (by rw [hW];rfl),bM (k:=1) n1 (by rw [hW];rfl),bM (k:=2) n2 (by rw [hW];rfl),bM (k:=3) n3 (by rw [hW];rfl),bM (k:=4) n4 (by rw [hW];rfl),bM (k:=5) n5 (by rw [hW];rfl),
  bM (k:=6) n6 (by rw [hW];rfl),bM (k:=7) n7 (by rw [hW];rfl),bM (k:=8) n8 (by rw [hW];rfl),bM (k:=9) n9 (by rw [hW];rfl),bM (k:=10) n10 (by rw [hW];rfl),bM (k:=11) n11 (by rw [hW];rfl),
  im (k:=12) (t:=nm) (by rw [hW];rfl),im (k:=13) (t:=cd) (by rw [hW];rfl),im (k:=14) (t:=fr) (by rw [hW];rfl),im (k:=15) (t:=tt) (by rw [hW];rfl),bM (k:=16) n14 (by rw [hW];rfl),bM (k:=17) n15 (by rw [hW];rfl)]
theorem bZ {W r:List (List D)} {j:Nat} {n:Int} (h:inR n (-1000000000) 1000000000=true) (e:dr j W=numW n :: r):numi W j=n:=by
 unfold numi
 rw [e,kj h]
theorem lJ {W r:List (List D)} {j:Nat} {t:ByteArray} (e:dr j W=encW t :: r):txti W j=t:=by
 unfold txti
 rw [e,lK]
theorem okN1 {W r:List (List D)} {j:Nat} {n:Int} (h:inR n (-1000000000) 1000000000=true) (e:dr j W=numW n :: r) (hj:¬ (12≤j∧j < 16)) (h1:okN W j=true):okN W (j+1)=true:=by
 rw [okN,if_neg hj,e,h1,ok1_c h]
theorem okN2 {W r:List (List D)} {j:Nat} {t:ByteArray} (e:dr j W=encW t :: r) (hj:12≤j∧j < 16) (h1:okN W j=true):okN W (j+1)=true:=by
 rw [okN,if_pos hj,e,h1,ok2_c]
theorem vi (g:GoodForm pv a0 a1 a2 x y z e0 e1 c0 c1 c2 nm cd cn fr tt ce ve rd) (hl:rd.length≤1048577) {W:List (List D)}
 (hW:W=numW a0 :: numW a1 :: numW a2 :: numW x :: numW y :: numW z :: numW e0 :: numW e1 :: numW c0 :: numW c1 :: numW c2 :: numW cn :: encW nm :: encW cd :: encW fr :: encW tt :: numW ce :: numW ve :: numW (rd.length:Int) :: rd.flatMap bj) :
 rdsI pv (numi W 18) (W.length+2) 0 (dr 19 W) (okN W 19) []=([],true,rd)∧opI W rd=opOf a0 a1 a2 [[.i x],[.i y],[.i z]] e0 e1 c0 c1 c2 nm cd cn fr tt ce ve rd:=by
 have n:=g.n
 simp only [jbW,jbS,or_false,forall_eq_or_imp,forall_eq] at n
 obtain ⟨n0,n1,n2,n3,n4,n5,n6,n7,n8,n9,n10,n11,n14,n15⟩:=n
 have nl:inR (rd.length:Int) (-1000000000) 1000000000=true:=by unfold inR;simp only [jb1,decide_eq_true_eq];omega
 have hlen:rd.length≤W.length+2:=by
  rw [hW]
  simp only [jb3,gZ bj 5 (fun _=>rfl)]
  omega
 have ok:okN W 19=true :=
  okN1 nl (by rw [hW];rfl) (by decide) (okN1 n15 (by rw [hW];rfl) (by decide) (okN1 n14 (by rw [hW];rfl) (by decide)
   (okN2 (t:=tt) (by rw [hW];rfl) (by decide) (okN2 (t:=fr) (by rw [hW];rfl) (by decide) (okN2 (t:=cd) (by rw [hW];rfl) (by decide) (okN2 (t:=nm) (by rw [hW];rfl) (by decide)
   (okN1 n11 (by rw [hW];rfl) (by decide) (okN1 n10 (by rw [hW];rfl) (by decide) (okN1 n9 (by rw [hW];rfl) (by decide) (okN1 n8 (by rw [hW];rfl) (by decide) (okN1 n7 (by rw [hW];rfl) (by decide) (okN1 n6 (by rw [hW];rfl) (by decide)
   (okN1 n5 (by rw [hW];rfl) (by decide) (okN1 n4 (by rw [hW];rfl) (by decide) (okN1 n3 (by rw [hW];rfl) (by decide) (okN1 n2 (by rw [hW];rfl) (by decide) (okN1 n1 (by rw [hW];rfl) (by decide) (okN1 n0 (by rw [hW];rfl) (by decide) rfl))))))))))))))))))
 have hd:dr 19 W=rd.flatMap bj:=by rw [hW];rfl
 refine ⟨by rw [bZ (j:=18) nl (by rw [hW];rfl),ok,hd,sQ g.r (W.length+2) 0 [] (by simp) hlen,jbX],?_⟩
 have es:ix W 3=[[.i (numi W 3)],[.i (numi W 4)],[.i (numi W 5)]]:=rfl
 unfold opI
 rw [es,bZ (j:=0) n0 (by rw [hW];rfl),bZ (j:=1) n1 (by rw [hW];rfl),bZ (j:=2) n2 (by rw [hW];rfl),bZ (j:=3) n3 (by rw [hW];rfl),bZ (j:=4) n4 (by rw [hW];rfl),bZ (j:=5) n5 (by rw [hW];rfl),
  bZ (j:=6) n6 (by rw [hW];rfl),bZ (j:=7) n7 (by rw [hW];rfl),bZ (j:=8) n8 (by rw [hW];rfl),bZ (j:=9) n9 (by rw [hW];rfl),bZ (j:=10) n10 (by rw [hW];rfl),bZ (j:=11) n11 (by rw [hW];rfl),
  lJ (j:=12) (t:=nm) (by rw [hW];rfl),lJ (j:=13) (t:=cd) (by rw [hW];rfl),lJ (j:=14) (t:=fr) (by rw [hW];rfl),lJ (j:=15) (t:=tt) (by rw [hW];rfl),bZ (j:=16) n14 (by rw [hW];rfl),bZ (j:=17) n15 (by rw [hW];rfl)]
end
theorem jaD {o:List D} {e:Bool} {s:ByteArray} (h:(aZ o).toList=s.toList) (he:e=true):poOf o e s=(o,true):=if_pos ⟨he,h⟩
theorem wu {o:List D} {e:Bool} {s:ByteArray} (h:¬ (e=true∧(aZ o).toList=s.toList)):poOf o e s=(bw,false):=if_neg h
theorem yv (n:Int):Lib.itoa n ≠ []:=by
 obtain ⟨b,r,h,_⟩:=fa n
 rw [h];simp
theorem tO {a:List D} {s:ByteArray} (h:(aZ a).toList=s.toList) (hs:s.toList ≠ []):bv a=true:=by
 cases hg:bv a with
 | true=>rfl
 | false =>
   unfold aZ at h
   rw [if_neg (by rw [hg];decide)] at h
   rw [bc] at h
   exact absurd h.symm hs
theorem m0 {a0 a1 a2 x y z e0 e1 c0 c1 c2:Int} {nm cd:ByteArray} {cn:Int} {fr tt:ByteArray} {ce ve:Int} {rd:List (List D)} {s:ByteArray} (hs:s.size≤1048576)
 (h:ae (aj s)=numW a0 :: numW a1 :: numW a2 :: numW x :: numW y :: numW z :: numW e0 :: numW e1 :: numW c0 :: numW c1 :: numW c2 :: numW cn :: encW nm :: encW cd :: encW fr :: encW tt :: numW ce :: numW ve :: numW (rd.length:Int) :: rd.flatMap bj):rd.length≤1048577:=by
 have:=j4 s hs
 rw [h] at this
 simp only [jb3,gZ bj 5 (fun _=>rfl)] at this
 omega
theorem okN_mono {W:List (List D)}:∀ j,okN W (j+1)=true→okN W j=true:=by
 intro j h
 rw [okN] at h
 split at h
 · exact (ok2_T h).2.1
 · exact (ok1_T h).2.1
theorem okN_1 {W:List (List D)}:∀ j,okN W (j+1)=true→okN W 1=true
 | 0,h=>h
 | j+1,h=>okN_1 j (okN_mono _ h)
theorem jaw {pv:ByteArray→List D × Bool} {c:Int}:∀ (m i:Nat) (q:List (List D)) (b:Bool) (out:List (List D)),(rdsI pv c m i q b out).2.1=true→b=true
 | 0,i,q,b,out,h=>h
 | m+1,i,q,b,out,h=>by
   rw [rdsI] at h
   split at h
   · rename_i hc;exact hc.2
   · exact h
theorem po_same {pv:ByteArray→List D × Bool} (hp:PvOk pv) {s:ByteArray} (hs:s.size≤1048576):poS pv s=poI pv s:=by
 by_cases hS:(!(s.toList == []))=true∧(aZ (opS (ae (aj s)) (rdsS pv (ae (aj s)) (numS (ae (aj s)) 18) ((ae (aj s)).length+1) 0 []))).toList=s.toList
 · have hg:=tO hS.2 (by simpa using hS.1)
   have hw:=ph hg hS.2
   have gf:=nw hp (m6 _ _ _ (fun r hr=>by cases hr)) hg
   rw [show opS _ _=opOf _ _ _ [[.i _],[.i _],[.i _]] _ _ _ _ _ _ _ _ _ _ _ _ _ from rfl,mG] at hw
   obtain ⟨hr,ho⟩:=vi gf (m0 hs hw) hw
   unfold poS poI
   rw [hr,ho]
   exact (jaD hS.2 hS.1).trans (jaD hS.2 rfl).symm
 · unfold poS
   rw [wu hS]
   symm
   unfold poI
   refine wu fun hI=>hS ?_
   have hne:s.toList ≠ []:=by
    intro h0
    have hb:=jaw _ _ _ _ _ (Bool.and_eq_true_iff.1 hI.1).1
    have h1:=okN_1 18 hb
    rw [← bc,aS] at h0
    subst h0
    have h2:=(ok1_T (show ok1 (ae (aj ⟨#[]⟩)) true=true from h1)).2.2
    have h3:=sY h2
    have h4:=congrArg (fun b:ByteArray=>b.data.toList) h3
    rw [bn] at h4
    exact yv _ h4
   have hg:=tO hI.2 hne
   have hw:=ph hg hI.2
   have gf:=nw hp (m8 _ _ _ _ _ (fun r hr=>by cases hr)) hg
   rw [show opI _ _=opOf _ _ _ [[.i _],[.i _],[.i _]] _ _ _ _ _ _ _ _ _ _ _ _ _ from rfl,mG] at hw
   have ho:=vh gf (m0 hs hw) hw
   refine ⟨by simpa using hne,?_⟩
   rw [ho]
   exact hI.2
end Go.Proofs.YtdjfhmghebommaaGreatDoor.Ab
