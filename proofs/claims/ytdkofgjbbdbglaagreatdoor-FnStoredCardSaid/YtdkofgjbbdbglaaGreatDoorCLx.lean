/- A part. -/
import Derived.Test.YtdkofgjbbdbglaaGreatDoorCZa
namespace Go.Proofs.YtdkofgjbbdbglaaGreatDoor.Ab
open Go.RowKit
set_option linter.all false
section
variable {T:Tab}
def spTx (T:Tab) (cts:List CT) (Sm:List D→Prop) (g:List D→ByteArray):FSpec where
 pre args:=∃ a:List D,WfRow T cts a∧Sm a∧args=[argG cts a]
 res args:=match args with
  | [.val _ cs]=>.val false [.s (g (csD cs))]
  | _=>.none
end
section
variable {T:Tab}
abbrev opOf (a0 a1 a2:Int) (seen:List (List D)) (e0 e1 c0 c1 c2:Int) (nm cd:ByteArray) (cn:Int) (fr to:ByteArray) (ce ve:Int) (rd:List (List D)):List D :=
 [.i a0,.i a1,.i a2,.l seen,.i e0,.i e1,.i c0,.i c1,.i c2,.s nm,.s cd,.i cn,.s fr,.s to,.i ce,.i ve,.l rd]
abbrev bB:List D:=opOf 0 0 0 [] 0 0 0 0 0 ES ES 0 ES ES 0 0 []
def poOf (o:List D) (e:Bool) (s:ByteArray):List D × Bool:=if e=true∧(aJ o).toList=s.toList then (o,true) else (bB,false)
section
variable (pv:ByteArray→List D × Bool) (rows:List (List D))
noncomputable def im (i:Nat):List (List D):=(List.range i).map fun j=>[.i (numS rows (3+j))]
noncomputable def rowS (k:Nat):List D:=[.i (numS rows k),.i (numS rows (k+1)),.i (numS rows (k+2)),.s (txtS rows (k+3))]++(pv (txtS rows (k+4))).1
noncomputable def rdsS (c:Int):Nat→Nat→List (List D)→List (List D)
 | 0,_,out=>out
 | m+1,i,out=>if (i:Int) < c∧19+5 * i < rows.length then rdsS c m (i+1) (out++[rowS pv rows (19+5 * i)]) else out
noncomputable def opS (rd:List (List D)):List D :=
 opOf (numS rows 0) (numS rows 1) (numS rows 2) (im rows 3) (numS rows 6) (numS rows 7) (numS rows 8) (numS rows 9) (numS rows 10) (txtS rows 12) (txtS rows 13) (numS rows 11) (txtS rows 14) (txtS rows 15) (numS rows 16) (numS rows 17) rd
def dr:Nat→List (List D)→List (List D)
 | 0,r=>r
 | j+1,r=>(dr j r).drop 1
noncomputable def ok1 (r:List (List D)) (b:Bool):Bool:=okW r b && (gN r).2
def ok2 (r:List (List D)) (b:Bool):Bool:=okW r b && (decT (hdW r)).2
noncomputable def okN:Nat→Bool
 | 0=>true
 | j+1=>if 12≤j∧j < 16 then ok2 (dr j rows) (okN j) else ok1 (dr j rows) (okN j)
noncomputable abbrev numi (j:Nat):Int:=(gN (dr j rows)).1
abbrev txti (j:Nat):ByteArray:=(decT (hdW (dr j rows))).1
noncomputable def io (i:Nat):List (List D):=(List.range i).map fun j=>[.i (numi rows (3+j))]
noncomputable def opI (rd:List (List D)):List D :=
 opOf (numi rows 0) (numi rows 1) (numi rows 2) (io rows 3) (numi rows 6) (numi rows 7) (numi rows 8) (numi rows 9) (numi rows 10) (txti rows 12) (txti rows 13) (numi rows 11) (txti rows 14) (txti rows 15) (numi rows 16) (numi rows 17) rd
noncomputable def rowI (r:List (List D)):List D:=[.i (gN r).1,.i (gN (dr 1 r)).1,.i (gN (dr 2 r)).1,.s (decT (hdW (dr 3 r))).1]++(pv (decT (hdW (dr 4 r))).1).1
noncomputable def ok5 (r:List (List D)) (b:Bool):Bool:=ok2 (dr 4 r) (ok2 (dr 3 r) (ok1 (dr 2 r) (ok1 (dr 1 r) (ok1 r b))))
noncomputable def rdsI (c:Int):Nat→Nat→List (List D)→Bool→List (List D)→List (List D) × Bool × List (List D)
 | 0,_,r,b,out=>(r,b,out)
 | m+1,i,r,b,out=>if (i:Int) < c∧b=true then rdsI c m (i+1) (dr 5 r) (ok5 r b) (out++[rowI pv r]) else (r,b,out)
end
noncomputable def poS (pv:ByteArray→List D × Bool) (s:ByteArray):List D × Bool :=
 poOf (opS (ac (ah s)) (rdsS pv (ac (ah s)) (numS (ac (ah s)) 18) ((ac (ah s)).length+1) 0 [])) (!(s.toList == [])) s
noncomputable def poI (pv:ByteArray→List D × Bool) (s:ByteArray):List D × Bool :=
 poOf (opI (ac (ah s)) (rdsI pv (numi (ac (ah s)) 18) ((ac (ah s)).length+2) 0 (dr 19 (ac (ah s))) (okN (ac (ah s)) 19) []).2.2)
  ((rdsI pv (numi (ac (ah s)) 18) ((ac (ah s)).length+2) 0 (dr 19 (ac (ah s))) (okN (ac (ah s)) 19) []).2.1 && ((rdsI pv (numi (ac (ah s)) 18) ((ac (ah s)).length+2) 0 (dr 19 (ac (ah s))) (okN (ac (ah s)) 19) []).1.length == 0)) s
noncomputable def ja5:FSpec where
 pre args:=∃ (rows:List (List D)) (k:Int),0≤k∧k≤1099511627776∧SmW rows∧args=[curS rows k]
 bx:=true
 res args:=match args with
  | [.tup [(_,[.sl _ _ rows,.i _ k])]]=>iArg (numS rows k.toNat)
  | _=>.none
 upd args:=match args with
  | [.tup [(_,[.sl _ _ rows,.i _ k])]]=>[.sl true 9 rows,.i .i64 (k+1)]
  | _=>[]
def ja4:FSpec where
 pre args:=∃ (rows:List (List D)) (k:Int),0≤k∧k≤1099511627776∧SmW rows∧args=[curS rows k]
 bx:=true
 res args:=match args with
  | [.tup [(_,[.sl _ _ rows,.i _ k])]]=>sArg (txtS rows k.toNat)
  | _=>.none
 upd args:=match args with
  | [.tup [(_,[.sl _ _ rows,.i _ k])]]=>[.sl true 9 rows,.i .i64 (k+1)]
  | _=>[]
theorem FOk.wi2 {P:Program} {f:FuncId} (h:FOk P T f w9):FOk P T f ja5:=by
 refine ⟨h.call,fun _ _ w X b ob cs args vals a1 a2 a3 a4 a5 a6 a7 a8 hpre=>?_,fun hb=>(by cases hb),fun _ hb=>(by cases hb)⟩
 obtain ⟨rows,k,h0,h1,hs,he⟩:=hpre
 obtain ⟨k,rfl⟩:=jd7 h0
 exact h.okb rfl rfl w X b ob cs args vals a1 a2 a3 a4 a5 a6 a7 a8 ⟨rows,k,by omega,hs,he⟩
theorem FOk.wt2 {P:Program} {f:FuncId} (h:FOk P T f wZ):FOk P T f ja4:=by
 refine ⟨h.call,fun _ _ w X b ob cs args vals a1 a2 a3 a4 a5 a6 a7 a8 hpre=>?_,fun hb=>(by cases hb),fun _ hb=>(by cases hb)⟩
 obtain ⟨rows,k,h0,h1,hs,he⟩:=hpre
 obtain ⟨k,rfl⟩:=jd7 h0
 exact h.okb rfl rfl w X b ob cs args vals a1 a2 a3 a4 a5 a6 a7 a8 ⟨rows,k,by omega,hs,he⟩
def dA (cts:List CT) (pv:ByteArray→List D × Bool):FSpec where
 pre args:=∃ s:ByteArray,s.size≤1048576∧args=[sArg s]
 res args:=match args with
  | [.val _ [.s s]]=>.tup [(true,rowC cts (pv s).1),(false,[.b (pv s).2])]
  | _=>.none
theorem FOk.pv2 {P:Program} {f:FuncId} {cts:List CT} {n:Nat} {pv:ByteArray→List D × Bool} (hn:1048577≤n) (h:FOk P T f (spPV cts n pv)):FOk P T f (dA cts pv):=by
 refine ⟨h.call,fun hb=>(by cases hb),fun _ w X args vals a1 a2 a3 hpre=>?_,fun hb=>(by cases hb)⟩
 obtain ⟨s,hs,he⟩:=hpre
 exact h.ok rfl w X args vals a1 a2 a3 ⟨s,hs,by omega,he⟩
theorem qD (rows:List (List D)) (i:Nat):im rows i++[[.i (numS rows (3+i))]]=im rows (i+1):=by
 unfold im;rw [List.range_succ,jen];rfl
theorem qE (rows:List (List D)) (i:Nat):io rows i++[[.i (numi rows (3+i))]]=io rows (i+1):=by
 unfold io;rw [List.range_succ,jen];rfl
theorem cH {rows:List (List D)} (h:SmW rows) (k:Nat):(txtS rows k).size≤1048576:=by
 unfold txtS
 split
 · rename_i hk;exact jdd (mB _) (h k hk)
 · exact jc7 _
theorem smW (s:ByteArray) (hs:s.size≤1048576):SmW (ac (ah s)):=by
 intro k hk
 rw [aH] at hk
 have e:wAt (ac (ah s)) k=(ah s)[k]:=by
  simp [wAt,ac,jdb,jc5 hk,D.str]
 rw [e]
 exact jdd (fM (jew hk)) hs
theorem lV (s:ByteArray) (hs:s.size≤1048576):(ac (ah s)).length≤1048577:=by
 rw [aH];have:=dQ s;omega
theorem tb {o:List D} {e:Bool} {s:ByteArray} (h:e=false):poOf o e s=(bB,false):=by
 unfold poOf;rw [if_neg (fun x=>by rw [h] at x;cases x.1)]
theorem xA {o:List D} {e:Bool} {s:ByteArray} (h:(!(aJ o).toList == s.toList)=true):poOf o e s=(bB,false):=by
 unfold poOf;rw [if_neg (fun x=>by rw [x.2] at h;simp at h)]
theorem xx {o:List D} {e:Bool} {s:ByteArray} (he:e=true) (h:(!(aJ o).toList == s.toList)=false):poOf o e s=(o,true):=by
 unfold poOf;rw [if_pos ⟨he,eq_of_beq (aE h)⟩]
theorem jbO {pv:ByteArray→List D × Bool} {s:ByteArray} {rw_:List (List D)} (h:ac (ah s)=rw_):poS pv s=poOf (opS rw_ (rdsS pv rw_ (numS rw_ 18) (rw_.length+1) 0 [])) (!(s.toList == [])) s:=by
 subst h;rfl
theorem jbQ {pv:ByteArray→List D × Bool} {s:ByteArray} {rw_:List (List D)} (h:ac (ah s)=rw_):poI pv s=poOf (opI rw_ (rdsI pv (numi rw_ 18) (rw_.length+2) 0 (dr 19 rw_) (okN rw_ 19) []).2.2)
 ((rdsI pv (numi rw_ 18) (rw_.length+2) 0 (dr 19 rw_) (okN rw_ 19) []).2.1 && ((rdsI pv (numi rw_ 18) (rw_.length+2) 0 (dr 19 rw_) (okN rw_ 19) []).1.length == 0)) s:=by
 subst h;rfl
end
theorem iW:∀ (j:Nat) (r:List (List D)),(dr j r).length=r.length - j
 | 0,r=>rfl
 | j+1,r=>by rw [dr,jdL,iW j r];omega
theorem SmW.drop {r:List (List D)} (h:SmW r):SmW (r.drop 1):=by
 intro k hk
 rw [jdL] at hk
 have e:wAt (r.drop 1) k=wAt r (k+1):=by
  have e2:(r.drop 1).getD k []=r.getD (k+1) []:=by
   rw [jdb,jdb,jeg,Nat.add_comm]
  unfold wAt
  rw [e2]
 rw [e]
 exact h _ (by omega)
theorem SmW.dr {r:List (List D)} (h:SmW r):∀ j,SmW (Ab.dr j r)
 | 0=>h
 | j+1=>(SmW.dr h j).drop
theorem okN_num {r:List (List D)} {j:Nat} (h:j < 12):okN r (j+1)=ok1 (dr j r) (okN r j):=by rw [okN,if_neg (by omega)]
theorem ok1_T {r:List (List D)} {b:Bool} (h:ok1 r b=true):r.length ≠ 0∧b=true∧(gN r).2=true:=by
 unfold ok1 okW at h
 rw [jdj] at h
 split at h
 · cases h.1
 · exact ⟨by assumption,h.1,h.2⟩
theorem ok2_T {r:List (List D)} {b:Bool} (h:ok2 r b=true):r.length ≠ 0∧b=true∧(decT (hdW r)).2=true:=by
 unfold ok2 okW at h
 rw [jdj] at h
 split at h
 · cases h.1
 · exact ⟨by assumption,h.1,h.2⟩
theorem ok5_T {r:List (List D)} {b:Bool} (h:ok5 r b=true):5≤r.length∧b=true:=by
 unfold ok5 at h
 have h4:=ok2_T h
 have h3:=ok2_T h4.2.1
 have h2:=ok1_T h3.2.1
 have h1:=ok1_T h2.2.1
 have h0:=ok1_T h1.2.1
 have:=h4.1
 rw [iW] at this
 exact ⟨by omega,h0.2.1⟩
theorem du {r:List (List D)} (h:SmW r):(decT (hdW r)).1.size≤1048576:=jdd (mB _) (mw h)
theorem nc {pv:ByteArray→List D × Bool} {c:Int} {m i:Nat} {r:List (List D)} {b:Bool} {out:List (List D)} (h:¬ ((i:Int) < c∧b=true)):rdsI pv c m i r b out=(r,b,out):=by
 cases m with
 | zero=>rfl
 | succ m=>rw [rdsI,if_neg h]
theorem sU {pv:ByteArray→List D × Bool} {c:Int} {m i:Nat} {r:List (List D)} {out:List (List D)} (h1:(i:Int) < c):rdsI pv c (m+1) i r true out=rdsI pv c m (i+1) (dr 5 r) (ok5 r true) (out++[rowI pv r]):=by
 rw [rdsI,if_pos ⟨h1,rfl⟩]
theorem jbo {f:List (List D)→List (List D)→Bool→Int→Snap} {r r' q q' : List (List D)} {b b' : Bool} {k k' : Int} (h:r=r') (h1:q=q') (h2:b=b') (h3:k=k'):f r q b k=f r' q' b' k' := by rw [h,h1,h2,h3]
structure PvOk (pv:ByteArray→List D × Bool):Prop where
 len:∀ w,(pv w).1.length=7
 back:∀ w,((pv w).1.getD 0 default).int=1∨((pv w).1.getD 0 default).int=6→bE (pv w).1=w
theorem xO {v:List D} (hk:(v.getD 0 default).int=1∨(v.getD 0 default).int=6):fmtV v=bE v:=by
 rw [cq]
 unfold cA
 rcases hk with h|h
 · rw [if_pos h,uc h]
 · have h' : iAt v 0=6:=h
   rw [if_neg (by omega),if_neg (by omega),if_neg (by omega),if_neg (by omega),if_pos h',ud h]
theorem s5 {v:List D} (hc:Can v) (e:Bool) (w:ByteArray):(pvOf v e w).1.length=7∧(((pvOf v e w).1.getD 0 default).int=1∨((pvOf v e w).1.getD 0 default).int=6→bE (pvOf v e w).1=w):=by
 cases h:(pvOf v e w).2 with
 | false =>
   rw [s7 h]
   exact ⟨rfl,fun hk=>by rcases hk with hk|hk <;> exact absurd hk (by decide)⟩
 | true =>
   obtain ⟨_,_,hs,he⟩:=s6 h
   rw [he]
   refine ⟨by cases hc <;> rfl,fun hk=>?_⟩
   rw [← xO hk]
   apply jes
   apply jep
   exact hs.symm
theorem xw (n:Nat):PvOk (pvS n):=⟨fun w=>(s5 (mF n 0) _ w).1,fun w=>(s5 (mF n 0) _ w).2⟩
def RdF (pv:ByteArray→List D × Bool) (r:List D):Prop:=∃ (a b c:Int) (t w:ByteArray),r=[.i a,.i b,.i c,.s t]++(pv w).1
theorem na {pv:ByteArray→List D × Bool} {rows:List (List D)} {c:Int}:∀ (m i:Nat) (out:List (List D)),(∀ r ∈ out,RdF pv r)→∀ r ∈ rdsS pv rows c m i out,RdF pv r
 | 0,i,out,h,r,hr=>h r hr
 | m+1,i,out,h,r,hr=>by
   rw [rdsS] at hr
   split at hr
   · refine na m (i+1) _ (fun x hx=>?_) r hr
     rcases jdG.1 hx with hx|hx
     · exact h x hx
     · obtain rfl:=jdX.1 hx
       exact ⟨_,_,_,_,_,rfl⟩
   · exact h r hr
theorem nd {pv:ByteArray→List D × Bool} {c:Int}:∀ (m i:Nat) (q:List (List D)) (b:Bool) (out:List (List D)),(∀ r ∈ out,RdF pv r)→∀ r ∈ (rdsI pv c m i q b out).2.2,RdF pv r
 | 0,i,q,b,out,h,r,hr=>h r hr
 | m+1,i,q,b,out,h,r,hr=>by
   rw [rdsI] at hr
   split at hr
   · refine nd m (i+1) _ _ _ (fun x hx=>?_) r hr
     rcases jdG.1 hx with hx|hx
     · exact h x hx
     · obtain rfl:=jdX.1 hx
       exact ⟨_,_,_,_,_,rfl⟩
   · exact h r hr
theorem o5 (b:UInt8):∀ x ∈ Lib.Hx.encode [b],x ≠ 32:=by
 have:∀ n:Fin 256, ∀ x ∈ Lib.Hx.encode [UInt8.ofNat n.val],x ≠ 32:=by decide +kernel
 have:=this ⟨b.toNat,b.toNat_lt⟩
 rwa [show UInt8.ofNat (⟨b.toNat,b.toNat_lt⟩:Fin 256).val=b by simp] at this
theorem nK (s:ByteArray):∀ x ∈ (encB s).data.toList,x ≠ 32:=by
 unfold encB
 split
 · intro x hx
   have:x=45:=by simpa using hx
   subst this;decide
 · have:∀ l:List UInt8, ∀ x ∈ Lib.Hx.encode l,x ≠ 32:=by
    intro l
    induction l with
    | nil=>intro x hx;cases hx
    | cons b l ih =>
      intro x hx
      have e:Lib.Hx.encode (b :: l)=Lib.Hx.encode [b]++Lib.Hx.encode l:=by simp [Lib.Hx.encode]
      rw [e] at hx
      rcases jdG.1 hx with hx|hx
      · exact o5 b x hx
      · exact ih x hx
   intro x hx
   exact this _ x (by simpa using hx)
theorem iP (n:Int):∀ x ∈ (aB n).data.toList,x ≠ 32:=by rw [bh];exact np n
abbrev k8 (a:List D):List (List D):=aL a (rds a).length
theorem eX (a:List D):∀ r ∈ k8 a,(∃ n:Int,r=numW n)∨∃ s:ByteArray,r=encW s:=by
 intro r hr
 unfold k8 aL dn dq at hr
 simp only [jdG] at hr
 rcases hr with ((hr|hr)|hr)|hr
 · obtain ⟨x,_,rfl⟩:=jdO.1 hr
   exact .inl ⟨_,rfl⟩
 · simp only [jde,jda,or_false] at hr
   rcases hr with rfl|rfl|rfl|rfl <;> exact .inr ⟨_,rfl⟩
 · simp only [jde,jda,or_false] at hr
   rcases hr with rfl|rfl|rfl <;> exact .inl ⟨_,rfl⟩
 · obtain ⟨x,_,hr⟩:=jeG.1 hr
   unfold bj at hr
   simp only [jde,jda,or_false] at hr
   rcases hr with rfl|rfl|rfl|rfl|rfl
   · exact .inl ⟨_,rfl⟩
   · exact .inl ⟨_,rfl⟩
   · exact .inl ⟨_,rfl⟩
   · exact .inr ⟨_,rfl⟩
   · exact .inr ⟨_,rfl⟩
theorem lz {a:List D} {s:ByteArray} (hg:bn a=true) (h:(aJ a).toList=s.toList):ac (ah s)=k8 a:=by
 rw [aW] at h
 subst h
 unfold aJ
 rw [if_pos hg,kP]
 · unfold ac strsOf
   rw [jev]
   conv=>rhs;rw [← List.map_id (k8 a)]
   refine jeB fun r hr=>?_
   rcases eX a r hr with ⟨n,rfl⟩|⟨t,rfl⟩ <;> rfl
 · intro e
   have:=congrArg List.length e
   rw [strsOf,jdi,bu (jdm _)] at this
   simp at this
 · intro t ht
   obtain ⟨r,hr,rfl⟩:=jdO.1 ht
   rcases eX a r hr with ⟨n,rfl⟩|⟨t,rfl⟩
   · exact iP n
   · exact nK t
theorem inR9 {n:Int} (h:inR n (-1000000000) 1000000000=true):-1000000000≤n∧n≤1000000000:=by
 unfold inR at h
 rw [jdj,decide_eq_true_eq,decide_eq_true_eq] at h
 omega
theorem bQ {W:List (List D)} {k:Nat} {n:Int} (h:inR n (-1000000000) 1000000000=true) (e:W[k]? = some (numW n)):numS W k=n:=by
 have hk:k < W.length:=(jdg.1 e).1
 unfold numS
 rw [if_pos hk,show wAt W k=aB n by unfold wAt;rw [show W.getD k []=numW n by rw [jdb,e];rfl];rfl]
 have:=inR9 h
 rw [eU (by omega) (by omega) rfl]
theorem ie {W:List (List D)} {k:Nat} {t:ByteArray} (e:W[k]? = some (encW t)):txtS W k=t:=by
 have hk:k < W.length:=(jdg.1 e).1
 unfold txtS
 rw [if_pos hk,show wAt W k=encB t by unfold wAt;rw [show W.getD k []=encW t by rw [jdb,e];rfl];rfl,nP]
theorem j8 {r:List (List D)} {n:Int} (h:inR n (-1000000000) 1000000000=true):gN (numW n :: r)=(n,true):=by
 have:=inR9 h
 exact eU (by omega) (by omega) rfl
theorem lJ {r:List (List D)} {t:ByteArray}:decT (hdW (encW t :: r))=(t,true):=nP t
theorem ok1_c {r:List (List D)} {n:Int} (h:inR n (-1000000000) 1000000000=true):ok1 (numW n :: r) true=true:=by
 unfold ok1
 rw [j8 h]
 rfl
theorem ok2_c {r:List (List D)} {t:ByteArray}:ok2 (encW t :: r) true=true:=by
 unfold ok2
 rw [lJ]
 rfl
structure GoodForm (pv:ByteArray→List D × Bool) (a0 a1 a2 x y z e0 e1 c0 c1 c2:Int) (nm cd:ByteArray) (cn:Int) (fr tt:ByteArray) (ce ve:Int) (rd:List (List D)):Prop where
 n:∀ i ∈ [a0,a1,a2,x,y,z,e0,e1,c0,c1,c2,cn,ce,ve],inR i (-1000000000) 1000000000=true
 r:∀ r ∈ rd, ∃ (a b c:Int) (t:ByteArray) (v:List D),r=[.i a,.i b,.i c,.s t]++v∧v.length=7∧(pv (bE v)).1=v∧inR a (-1000000000) 1000000000=true∧inR b (-1000000000) 1000000000=true∧inR c (-1000000000) 1000000000=true
theorem sub7 {a b c:Int} {t:ByteArray} {v:List D} (h:v.length=7):sub ([.i a,.i b,.i c,.s t]++v) 4 7=v:=by
 match v,h with
 | [_,_,_,_,_,_,_],_=>rfl
theorem kh {pv:ByteArray→List D × Bool} (hp:PvOk pv) {a0 a1 a2 x y z e0 e1 c0 c1 c2:Int} {nm cd:ByteArray} {cn:Int} {fr tt:ByteArray} {ce ve:Int} {rd:List (List D)}
 (hr:∀ r ∈ rd,RdF pv r) (hg:bn (opOf a0 a1 a2 [[.i x],[.i y],[.i z]] e0 e1 c0 c1 c2 nm cd cn fr tt ce ve rd)=true):GoodForm pv a0 a1 a2 x y z e0 e1 c0 c1 c2 nm cd cn fr tt ce ve rd:=by
 unfold bn at hg
 rw [jdj,jdj] at hg
 have hn:=jdt.1 hg.2.1
 have hn' : ∀ i:Int,numI i ∈ aD (opOf a0 a1 a2 [[.i x],[.i y],[.i z]] e0 e1 c0 c1 c2 nm cd cn fr tt ce ve rd) (rds (opOf a0 a1 a2 [[.i x],[.i y],[.i z]] e0 e1 c0 c1 c2 nm cd cn fr tt ce ve rd)).length→inR i (-1000000000) 1000000000=true:=fun i h=>hn _ h
 have hd:aD (opOf a0 a1 a2 [[.i x],[.i y],[.i z]] e0 e1 c0 c1 c2 nm cd cn fr tt ce ve rd) (rds (opOf a0 a1 a2 [[.i x],[.i y],[.i z]] e0 e1 c0 c1 c2 nm cd cn fr tt ce ve rd)).length=[numI a0,numI a1,numI a2,numI x,numI y,numI z,numI e0,numI e1,numI c0,numI c1,numI c2,numI cn,numI ce,numI ve]++rd.flatMap em:=by
  show _++(rd.take rd.length).flatMap em=_
  rw [jdZ]
  rfl
 rw [hd] at hn'
 refine ⟨fun i hi=>hn' i (jeN _ (by
  simp only [jde,jda,or_false] at hi ⊢
  rcases hi with rfl|rfl|rfl|rfl|rfl|rfl|rfl|rfl|rfl|rfl|rfl|rfl|rfl|rfl <;> simp)),fun r h=>?_⟩
 obtain ⟨a,b,c,t,w,rfl⟩:=hr r h
 have hk:=cf (jdt.1 hg.1 _ h)
 rw [sub7 (hp.len w)] at hk
 have hm:∀ i:Int,numI i ∈ em ([.i a,.i b,.i c,.s t]++(pv w).1)→inR i (-1000000000) 1000000000=true:=fun i hi=>hn' i (List.mem_append_right _ (jeG.2 ⟨_,h,hi⟩))
 exact ⟨a,b,c,t,_,rfl,hp.len w,by rw [hp.back w hk],hm a (by simp [em,ints,numI,D.int]),hm b (by simp [em,ints,numI,D.int]),hm c (by simp [em,ints,numI,D.int])⟩
section
variable {pv:ByteArray→List D × Bool} {a0 a1 a2 x y z e0 e1 c0 c1 c2:Int} {nm cd:ByteArray} {cn:Int} {fr tt:ByteArray} {ce ve:Int} {rd:List (List D)}
theorem jB:k8 (opOf a0 a1 a2 [[.i x],[.i y],[.i z]] e0 e1 c0 c1 c2 nm cd cn fr tt ce ve rd) =
 numW a0 :: numW a1 :: numW a2 :: numW x :: numW y :: numW z :: numW e0 :: numW e1 :: numW c0 :: numW c1 :: numW c2 :: numW cn :: encW nm :: encW cd :: encW fr :: encW tt :: numW ce :: numW ve :: numW (rd.length:Int) :: rd.flatMap bj:=by
 show _++(rd.take rd.length).flatMap bj=_
 rw [jdZ]
 rfl
theorem pR {a b c:Int} {t:ByteArray} {v:List D} (h:v.length=7):bj ([.i a,.i b,.i c,.s t]++v)=[numW a,numW b,numW c,encW t,encW (bE v)]:=by
 unfold bj
 rw [sub7 h]
 rfl
theorem getD_drop {W l:List (List D)} {k:Nat} (h:W.drop k=l) (j:Nat):W[k+j]? = l[j]? := by rw [← h,jeg]
theorem sT (h:∀ r ∈ rd, ∃ (a b c:Int) (t:ByteArray) (v:List D),r=[.i a,.i b,.i c,.s t]++v∧v.length=7∧(pv (bE v)).1=v∧inR a (-1000000000) 1000000000=true∧inR b (-1000000000) 1000000000=true∧inR c (-1000000000) 1000000000=true) {W:List (List D)} {n:Int} :
 ∀ (m i:Nat) (out:List (List D)),W.drop (19+5 * i)=rd.flatMap bj→(i:Int)+rd.length=n→rd.length≤m→rdsS pv W n m i out=out++rd:=by
 induction rd with
 | nil =>
   intro m i out hd hn hm
   have:¬ ((i:Int) < n∧19+5 * i < W.length):=by simp only [jdu] at hn;omega
   cases m with
   | zero=>simp [rdsS]
   | succ m=>rw [rdsS,if_neg this,jeu]
 | cons r l ih =>
   intro m i out hd hn hm
   obtain ⟨a,b,c,t,v,rfl,hv,hb,i1,i2,i3⟩:=h r (jdB ..)
   rw [je0,pR hv] at hd
   have hlt:19+5 * i < W.length:=by
    apply Nat.lt_of_not_le
    intro hle
    rw [jeW hle] at hd
    cases hd
   rw [jdl] at hn hm
   obtain ⟨m,rfl⟩:∃ k,m=k+1:=⟨m - 1,by omega⟩
   rw [rdsS,if_pos ⟨by omega,hlt⟩]
   have er:rowS pv W (19+5 * i)=[.i a,.i b,.i c,.s t]++v:=by
    unfold rowS
    rw [bQ (k:=19+5 * i) (n:=a) i1 (getD_drop hd 0),bQ (n:=b) i2 (getD_drop hd 1),bQ (n:=c) i3 (getD_drop hd 2),ie (t:=t) (getD_drop hd 3),ie (t:=bE v) (getD_drop hd 4),hb]
   rw [er,ih (fun r hr=>h r (jdP _ hr)) m (i+1) _ ?_ (by push_cast;omega) (by omega),jdM]
   · rfl
   · rw [show 19+5 * (i+1)=(19+5 * i)+5 by omega, ← List.drop_drop,hd];rfl
theorem sV (h:∀ r ∈ rd, ∃ (a b c:Int) (t:ByteArray) (v:List D),r=[.i a,.i b,.i c,.s t]++v∧v.length=7∧(pv (bE v)).1=v∧inR a (-1000000000) 1000000000=true∧inR b (-1000000000) 1000000000=true∧inR c (-1000000000) 1000000000=true) {n:Int} :
 ∀ (m i:Nat) (out:List (List D)),(i:Int)+rd.length=n→rd.length≤m→rdsI pv n m i (rd.flatMap bj) true out=([],true,out++rd):=by
 induction rd with
 | nil =>
   intro m i out hn hm
   have:¬ ((i:Int) < n∧true=true):=by simp only [jdu] at hn;omega
   rw [nc this,jeu]
   rfl
 | cons r l ih =>
   intro m i out hn hm
   obtain ⟨a,b,c,t,v,rfl,hv,hb,i1,i2,i3⟩:=h r (jdB ..)
   rw [je0,pR hv]
   rw [jdl] at hn hm
   obtain ⟨m,rfl⟩:∃ k,m=k+1:=⟨m - 1,by omega⟩
   rw [sU (by omega)]
   have er:rowI pv ([numW a,numW b,numW c,encW t,encW (bE v)]++l.flatMap bj)=[.i a,.i b,.i c,.s t]++v:=by
    unfold rowI
    show [D.i (gN (numW a :: _)).1,.i (gN (numW b :: _)).1,.i (gN (numW c :: _)).1,.s (decT (hdW (encW t :: _))).1]++(pv (decT (hdW (encW (bE v) :: _))).1).1=_
    rw [j8 i1,j8 i2,j8 i3,lJ,lJ,hb]
   have eo:ok5 ([numW a,numW b,numW c,encW t,encW (bE v)]++l.flatMap bj) true=true:=by
    unfold ok5
    show ok2 (encW (bE v) :: _) (ok2 (encW t :: _) (ok1 (numW c :: _) (ok1 (numW b :: _) (ok1 (numW a :: _) true))))=true
    rw [ok1_c i1,ok1_c i2,ok1_c i3,ok2_c,ok2_c]
   rw [er,eo]
   show rdsI pv n m (i+1) (l.flatMap bj) true _=_
   rw [ih (fun r hr=>h r (jdP _ hr)) m (i+1) _ (by push_cast;omega) (by omega),jdM]
   rfl
theorem pV (g:GoodForm pv a0 a1 a2 x y z e0 e1 c0 c1 c2 nm cd cn fr tt ce ve rd) (hl:rd.length≤1048577) {W:List (List D)}
 (hW:W=numW a0 :: numW a1 :: numW a2 :: numW x :: numW y :: numW z :: numW e0 :: numW e1 :: numW c0 :: numW c1 :: numW c2 :: numW cn :: encW nm :: encW cd :: encW fr :: encW tt :: numW ce :: numW ve :: numW (rd.length:Int) :: rd.flatMap bj) :
 opS W (rdsS pv W (numS W 18) (W.length+1) 0 [])=opOf a0 a1 a2 [[.i x],[.i y],[.i z]] e0 e1 c0 c1 c2 nm cd cn fr tt ce ve rd:=by
 have n:=g.n
 simp only [jde,jda,or_false,forall_eq_or_imp,forall_eq] at n
 obtain ⟨n0,n1,n2,n3,n4,n5,n6,n7,n8,n9,n10,n11,n14,n15⟩:=n
 have nl:inR (rd.length:Int) (-1000000000) 1000000000=true:=by unfold inR;simp only [jdj,decide_eq_true_eq];omega
 have hlen:rd.length≤W.length+1:=by
  rw [hW]
  simp only [jdl,gU bj 5 (fun _=>rfl)]
  omega
 have r:rdsS pv W (numS W 18) (W.length+1) 0 []=rd:=by
  rw [bQ (k:=18) nl (by rw [hW];rfl),sT g.r (W.length+1) 0 [] (by rw [hW];rfl) (by simp) hlen,jdf]
 rw [r]
 have es:im W 3=[[.i (numS W 3)],[.i (numS W 4)],[.i (numS W 5)]]:=rfl
 unfold opS
 rw [es,bQ (k:=0) n0 (by rw [hW];rfl),bQ (k:=1) n1 (by rw [hW];rfl),bQ (k:=2) n2 (by rw [hW];rfl),bQ (k:=3) n3 (by rw [hW];rfl),bQ (k:=4) n4 (by rw [hW];rfl),bQ (k:=5) n5 (by rw [hW];rfl),
  bQ (k:=6) n6 (by rw [hW];rfl),bQ (k:=7) n7 (by rw [hW];rfl),bQ (k:=8) n8 (by rw [hW];rfl),bQ (k:=9) n9 (by rw [hW];rfl),bQ (k:=10) n10 (by rw [hW];rfl),bQ (k:=11) n11 (by rw [hW];rfl),
  ie (k:=12) (t:=nm) (by rw [hW];rfl),ie (k:=13) (t:=cd) (by rw [hW];rfl),ie (k:=14) (t:=fr) (by rw [hW];rfl),ie (k:=15) (t:=tt) (by rw [hW];rfl),bQ (k:=16) n14 (by rw [hW];rfl),bQ (k:=17) n15 (by rw [hW];rfl)]
theorem b9 {W r:List (List D)} {j:Nat} {n:Int} (h:inR n (-1000000000) 1000000000=true) (e:dr j W=numW n :: r):numi W j=n:=by
 unfold numi
 rw [e,j8 h]
theorem lH {W r:List (List D)} {j:Nat} {t:ByteArray} (e:dr j W=encW t :: r):txti W j=t:=by
 unfold txti
 rw [e,lJ]
theorem okN1 {W r:List (List D)} {j:Nat} {n:Int} (h:inR n (-1000000000) 1000000000=true) (e:dr j W=numW n :: r) (hj:¬ (12≤j∧j < 16)) (h1:okN W j=true):okN W (j+1)=true:=by
 rw [okN,if_neg hj,e,h1,ok1_c h]
theorem okN2 {W r:List (List D)} {j:Nat} {t:ByteArray} (e:dr j W=encW t :: r) (hj:12≤j∧j < 16) (h1:okN W j=true):okN W (j+1)=true:=by
 rw [okN,if_pos hj,e,h1,ok2_c]
theorem vN (g:GoodForm pv a0 a1 a2 x y z e0 e1 c0 c1 c2 nm cd cn fr tt ce ve rd) (hl:rd.length≤1048577) {W:List (List D)}
 (hW:W=numW a0 :: numW a1 :: numW a2 :: numW x :: numW y :: numW z :: numW e0 :: numW e1 :: numW c0 :: numW c1 :: numW c2 :: numW cn :: encW nm :: encW cd :: encW fr :: encW tt :: numW ce :: numW ve :: numW (rd.length:Int) :: rd.flatMap bj) :
 rdsI pv (numi W 18) (W.length+2) 0 (dr 19 W) (okN W 19) []=([],true,rd)∧opI W rd=opOf a0 a1 a2 [[.i x],[.i y],[.i z]] e0 e1 c0 c1 c2 nm cd cn fr tt ce ve rd:=by
 have n:=g.n
 simp only [jde,jda,or_false,forall_eq_or_imp,forall_eq] at n
 obtain ⟨n0,n1,n2,n3,n4,n5,n6,n7,n8,n9,n10,n11,n14,n15⟩:=n
 have nl:inR (rd.length:Int) (-1000000000) 1000000000=true:=by unfold inR;simp only [jdj,decide_eq_true_eq];omega
 have hlen:rd.length≤W.length+2:=by
  rw [hW]
  simp only [jdl,gU bj 5 (fun _=>rfl)]
  omega
 have ok:okN W 19=true :=
  okN1 nl (by rw [hW];rfl) (by decide) (okN1 n15 (by rw [hW];rfl) (by decide) (okN1 n14 (by rw [hW];rfl) (by decide)
   (okN2 (t:=tt) (by rw [hW];rfl) (by decide) (okN2 (t:=fr) (by rw [hW];rfl) (by decide) (okN2 (t:=cd) (by rw [hW];rfl) (by decide) (okN2 (t:=nm) (by rw [hW];rfl) (by decide)
   (okN1 n11 (by rw [hW];rfl) (by decide) (okN1 n10 (by rw [hW];rfl) (by decide) (okN1 n9 (by rw [hW];rfl) (by decide) (okN1 n8 (by rw [hW];rfl) (by decide) (okN1 n7 (by rw [hW];rfl) (by decide) (okN1 n6 (by rw [hW];rfl) (by decide)
   (okN1 n5 (by rw [hW];rfl) (by decide) (okN1 n4 (by rw [hW];rfl) (by decide) (okN1 n3 (by rw [hW];rfl) (by decide) (okN1 n2 (by rw [hW];rfl) (by decide) (okN1 n1 (by rw [hW];rfl) (by decide) (okN1 n0 (by rw [hW];rfl) (by decide) rfl))))))))))))))))))
 have hd:dr 19 W=rd.flatMap bj:=by rw [hW];rfl
 refine ⟨by rw [b9 (j:=18) nl (by rw [hW];rfl),ok,hd,sV g.r (W.length+2) 0 [] (by simp) hlen,jdf],?_⟩
 have es:io W 3=[[.i (numi W 3)],[.i (numi W 4)],[.i (numi W 5)]]:=rfl
 unfold opI
 rw [es,b9 (j:=0) n0 (by rw [hW];rfl),b9 (j:=1) n1 (by rw [hW];rfl),b9 (j:=2) n2 (by rw [hW];rfl),b9 (j:=3) n3 (by rw [hW];rfl),b9 (j:=4) n4 (by rw [hW];rfl),b9 (j:=5) n5 (by rw [hW];rfl),
  b9 (j:=6) n6 (by rw [hW];rfl),b9 (j:=7) n7 (by rw [hW];rfl),b9 (j:=8) n8 (by rw [hW];rfl),b9 (j:=9) n9 (by rw [hW];rfl),b9 (j:=10) n10 (by rw [hW];rfl),b9 (j:=11) n11 (by rw [hW];rfl),
  lH (j:=12) (t:=nm) (by rw [hW];rfl),lH (j:=13) (t:=cd) (by rw [hW];rfl),lH (j:=14) (t:=fr) (by rw [hW];rfl),lH (j:=15) (t:=tt) (by rw [hW];rfl),b9 (j:=16) n14 (by rw [hW];rfl),b9 (j:=17) n15 (by rw [hW];rfl)]
end
theorem zb {o:List D} {e:Bool} {s:ByteArray} (h:(aJ o).toList=s.toList) (he:e=true):poOf o e s=(o,true):=if_pos ⟨he,h⟩
theorem xz {o:List D} {e:Bool} {s:ByteArray} (h:¬ (e=true∧(aJ o).toList=s.toList)):poOf o e s=(bB,false):=if_neg h
theorem zB (n:Int):Lib.itoa n ≠ []:=by
 obtain ⟨b,r,h,_⟩:=e9 n
 rw [h];simp
theorem o6 {a:List D} {s:ByteArray} (h:(aJ a).toList=s.toList) (hs:s.toList ≠ []):bn a=true:=by
 cases hg:bn a with
 | true=>rfl
 | false =>
   unfold aJ at h
   rw [if_neg (by rw [hg];decide)] at h
   rw [nil_toList] at h
   exact absurd h.symm hs
theorem jY {a0 a1 a2 x y z e0 e1 c0 c1 c2:Int} {nm cd:ByteArray} {cn:Int} {fr tt:ByteArray} {ce ve:Int} {rd:List (List D)} {s:ByteArray} (hs:s.size≤1048576)
 (h:ac (ah s)=numW a0 :: numW a1 :: numW a2 :: numW x :: numW y :: numW z :: numW e0 :: numW e1 :: numW c0 :: numW c1 :: numW c2 :: numW cn :: encW nm :: encW cd :: encW fr :: encW tt :: numW ce :: numW ve :: numW (rd.length:Int) :: rd.flatMap bj):rd.length≤1048577:=by
 have:=lV s hs
 rw [h] at this
 simp only [jdl,gU bj 5 (fun _=>rfl)] at this
 omega
theorem okN_mono {W:List (List D)}:∀ j,okN W (j+1)=true→okN W j=true:=by
 intro j h
 rw [okN] at h
 split at h
 · exact (ok2_T h).2.1
 · exact (ok1_T h).2.1
theorem okN_1 {W:List (List D)}:∀ j,okN W (j+1)=true→okN W 1=true
 | 0,h=>h
 | j+1,h=>okN_1 j (okN_mono _ h)
theorem jbG {pv:ByteArray→List D × Bool} {c:Int}:∀ (m i:Nat) (q:List (List D)) (b:Bool) (out:List (List D)),(rdsI pv c m i q b out).2.1=true→b=true
 | 0,i,q,b,out,h=>h
 | m+1,i,q,b,out,h=>by
   rw [rdsI] at h
   split at h
   · rename_i hc;exact hc.2
   · exact h
theorem po_same {pv:ByteArray→List D × Bool} (hp:PvOk pv) {s:ByteArray} (hs:s.size≤1048576):poS pv s=poI pv s:=by
 by_cases hS:(!(s.toList == []))=true∧(aJ (opS (ac (ah s)) (rdsS pv (ac (ah s)) (numS (ac (ah s)) 18) ((ac (ah s)).length+1) 0 []))).toList=s.toList
 · have hg:=o6 hS.2 (by simpa using hS.1)
   have hw:=lz hg hS.2
   have gf:=kh hp (na _ _ _ (fun r hr=>by cases hr)) hg
   rw [show opS _ _=opOf _ _ _ [[.i _],[.i _],[.i _]] _ _ _ _ _ _ _ _ _ _ _ _ _ from rfl,jB] at hw
   obtain ⟨hr,ho⟩:=vN gf (jY hs hw) hw
   unfold poS poI
   rw [hr,ho]
   exact (zb hS.2 hS.1).trans (zb hS.2 rfl).symm
 · unfold poS
   rw [xz hS]
   symm
   unfold poI
   refine xz fun hI=>hS ?_
   have hne:s.toList ≠ []:=by
    intro h0
    have hb:=jbG _ _ _ _ _ (Bool.and_eq_true_iff.1 hI.1).1
    have h1:=okN_1 18 hb
    rw [← nil_toList,aW] at h0
    subst h0
    have h2:=(ok1_T (show ok1 (ac (ah ⟨#[]⟩)) true=true from h1)).2.2
    have h3:=s9 h2
    have h4:=congrArg (fun b:ByteArray=>b.data.toList) h3
    rw [bh] at h4
    exact zB _ h4
   have hg:=o6 hI.2 hne
   have hw:=lz hg hI.2
   have gf:=kh hp (nd _ _ _ _ _ (fun r hr=>by cases hr)) hg
   rw [show opI _ _=opOf _ _ _ [[.i _],[.i _],[.i _]] _ _ _ _ _ _ _ _ _ _ _ _ _ from rfl,jB] at hw
   have ho:=pV gf (jY hs hw) hw
   refine ⟨by simpa using hne,?_⟩
   rw [ho]
   exact hI.2
end Go.Proofs.YtdkofgjbbdbglaaGreatDoor.Ab
