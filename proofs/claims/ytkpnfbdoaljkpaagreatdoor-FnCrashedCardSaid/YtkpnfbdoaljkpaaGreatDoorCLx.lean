/- The smallness of operations from their weight; texts of structures. No program in -/
import Derived.Test.YtkpnfbdoaljkpaaGreatDoorCZa
namespace Go.Proofs.YtkpnfbdoaljkpaaGreatDoor.Ab
open Go.RowKit
set_option linter.all false
variable {T:Tab}
def spTx (T:Tab) (cts:List CT) (Sm:List D→Prop) (g:List D→ByteArray):FSpec where
 pre args:=∃ a:List D,WfRow T cts a∧Sm a∧args=[argG cts a]
 res args:=match args with
  | [.val _ cs]=>.val false [.s (g (csD cs))]
  | _=>.none
end Go.Proofs.YtkpnfbdoaljkpaaGreatDoor.Ab
namespace Go.Proofs.YtkpnfbdoaljkpaaGreatDoor.Ab
open Go.RowKit
set_option linter.all false
variable {T:Tab}
abbrev opOf (a0 a1 a2:Int) (seen:List (List D)) (e0 e1 c0 c1 c2:Int) (nm cd:ByteArray) (cn:Int) (fr to:ByteArray) (ce ve:Int) (rd:List (List D)):List D :=
 [.i a0,.i a1,.i a2,.l seen,.i e0,.i e1,.i c0,.i c1,.i c2,.s nm,.s cd,.i cn,.s fr,.s to,.i ce,.i ve,.l rd]
abbrev bV:List D:=opOf 0 0 0 [] 0 0 0 0 0 ES ES 0 ES ES 0 0 []
def poOf (o:List D) (e:Bool) (s:ByteArray):List D × Bool:=if e=true∧(ba o).toList=s.toList then (o,true) else (bV,false)
section
variable (pv:ByteArray→List D × Bool) (rows:List (List D))
noncomputable def qW (i:Nat):List (List D):=(List.range i).map fun j=>[.i (numS rows (3+j))]
noncomputable def rowS (k:Nat):List D:=[.i (numS rows k),.i (numS rows (k+1)),.i (numS rows (k+2)),.s (txtS rows (k+3))]++(pv (txtS rows (k+4))).1
noncomputable def rdsS (c:Int):Nat→Nat→List (List D)→List (List D)
 | 0,_,out=>out
 | m+1,i,out=>if (i:Int) < c∧19+5 * i < rows.length then rdsS c m (i+1) (out++[rowS pv rows (19+5 * i)]) else out
noncomputable def opS (rd:List (List D)):List D :=
 opOf (numS rows 0) (numS rows 1) (numS rows 2) (qW rows 3) (numS rows 6) (numS rows 7) (numS rows 8) (numS rows 9) (numS rows 10) (txtS rows 12) (txtS rows 13) (numS rows 11) (txtS rows 14) (txtS rows 15) (numS rows 16) (numS rows 17) rd
def dr:Nat→List (List D)→List (List D)
 | 0,r=>r
 | j+1,r=>(dr j r).drop 1
noncomputable def ok1 (r:List (List D)) (b:Bool):Bool:=okW r b && (gj r).2
def ok2 (r:List (List D)) (b:Bool):Bool:=okW r b && (decT (hdW r)).2
noncomputable def okN:Nat→Bool
 | 0=>true
 | j+1=>if 12≤j∧j < 16 then ok2 (dr j rows) (okN j) else ok1 (dr j rows) (okN j)
noncomputable abbrev numi (j:Nat):Int:=(gj (dr j rows)).1
abbrev txti (j:Nat):ByteArray:=(decT (hdW (dr j rows))).1
noncomputable def gQ (i:Nat):List (List D):=(List.range i).map fun j=>[.i (numi rows (3+j))]
noncomputable def opI (rd:List (List D)):List D :=
 opOf (numi rows 0) (numi rows 1) (numi rows 2) (gQ rows 3) (numi rows 6) (numi rows 7) (numi rows 8) (numi rows 9) (numi rows 10) (txti rows 12) (txti rows 13) (numi rows 11) (txti rows 14) (txti rows 15) (numi rows 16) (numi rows 17) rd
noncomputable def rowI (r:List (List D)):List D:=[.i (gj r).1,.i (gj (dr 1 r)).1,.i (gj (dr 2 r)).1,.s (decT (hdW (dr 3 r))).1]++(pv (decT (hdW (dr 4 r))).1).1
noncomputable def ok5 (r:List (List D)) (b:Bool):Bool:=ok2 (dr 4 r) (ok2 (dr 3 r) (ok1 (dr 2 r) (ok1 (dr 1 r) (ok1 r b))))
noncomputable def rdsI (c:Int):Nat→Nat→List (List D)→Bool→List (List D)→List (List D) × Bool × List (List D)
 | 0,_,r,b,out=>(r,b,out)
 | m+1,i,r,b,out=>if (i:Int) < c∧b=true then rdsI c m (i+1) (dr 5 r) (ok5 r b) (out++[rowI pv r]) else (r,b,out)
end
noncomputable def poS (pv:ByteArray→List D × Bool) (s:ByteArray):List D × Bool :=
 poOf (opS (af (ao s)) (rdsS pv (af (ao s)) (numS (af (ao s)) 18) ((af (ao s)).length+1) 0 [])) (!(s.toList == [])) s
noncomputable def poI (pv:ByteArray→List D × Bool) (s:ByteArray):List D × Bool :=
 poOf (opI (af (ao s)) (rdsI pv (numi (af (ao s)) 18) ((af (ao s)).length+2) 0 (dr 19 (af (ao s))) (okN (af (ao s)) 19) []).2.2)
  ((rdsI pv (numi (af (ao s)) 18) ((af (ao s)).length+2) 0 (dr 19 (af (ao s))) (okN (af (ao s)) 19) []).2.1 && ((rdsI pv (numi (af (ao s)) 18) ((af (ao s)).length+2) 0 (dr 19 (af (ao s))) (okN (af (ao s)) 19) []).1.length == 0)) s
def fV (cts:List CT) (pv:ByteArray→List D × Bool):FSpec where
 pre args:=∃ s:ByteArray,s.size≤1048576∧args=[sArg s]
 res args:=match args with
  | [.val _ [.s s]]=>.tup [(true,rowC cts (pv s).1),(false,[.b (pv s).2])]
  | _=>.none
theorem FOk.pv2 {P:Program} {f:FuncId} {cts:List CT} {n:Nat} {pv:ByteArray→List D × Bool} (hn:1048577≤n) (h:FOk P T f (spPV cts n pv)):FOk P T f (fV cts pv):=by
 refine ⟨h.call,fun hb=>(by cases hb),fun _ w X args vals a1 a2 a3 hpre=>?_,fun hb=>(by cases hb)⟩
 obtain ⟨s,hs,he⟩:=hpre
 exact h.ok rfl w X args vals a1 a2 a3 ⟨s,hs,by omega,he⟩
theorem pC (rows:List (List D)) (i:Nat):gQ rows i++[[.i (numi rows (3+i))]]=gQ rows (i+1):=by
 unfold gQ;rw [List.range_succ,jca];rfl
theorem cU {rows:List (List D)} (h:SmW rows) (k:Nat):(txtS rows k).size≤1048576:=by
 unfold txtS
 split
 · rename_i hk;exact ja0 (oa _) (h k hk)
 · exact jaU _
theorem smW (s:ByteArray) (hs:s.size≤1048576):SmW (af (ao s)):=by
 intro k hk
 rw [aR] at hk
 have e:wAt (af (ao s)) k=(ao s)[k]:=by
  simp [wAt,af,jaY,jaS hk,D.str]
 rw [e]
 exact ja0 (fo (jcj hk)) hs
theorem nx (s:ByteArray) (hs:s.size≤1048576):(af (ao s)).length≤1048577:=by
 rw [aR];have:=dH s;omega
theorem vj {o:List D} {e:Bool} {s:ByteArray} (h:e=false):poOf o e s=(bV,false):=by
 unfold poOf;rw [if_neg (fun x=>by rw [h] at x;cases x.1)]
theorem zC {o:List D} {e:Bool} {s:ByteArray} (h:(!(ba o).toList == s.toList)=true):poOf o e s=(bV,false):=by
 unfold poOf;rw [if_neg (fun x=>by rw [x.2] at h;simp at h)]
theorem zB {o:List D} {e:Bool} {s:ByteArray} (he:e=true) (h:(!(ba o).toList == s.toList)=false):poOf o e s=(o,true):=by
 unfold poOf;rw [if_pos ⟨he,eq_of_beq (bw h)⟩]
theorem zG {pv:ByteArray→List D × Bool} {s:ByteArray} {rw_:List (List D)} (h:af (ao s)=rw_):poI pv s=poOf (opI rw_ (rdsI pv (numi rw_ 18) (rw_.length+2) 0 (dr 19 rw_) (okN rw_ 19) []).2.2)
 ((rdsI pv (numi rw_ 18) (rw_.length+2) 0 (dr 19 rw_) (okN rw_ 19) []).2.1 && ((rdsI pv (numi rw_ 18) (rw_.length+2) 0 (dr 19 rw_) (okN rw_ 19) []).1.length == 0)) s:=by
 subst h;rfl
end Go.Proofs.YtkpnfbdoaljkpaaGreatDoor.Ab
namespace Go.Proofs.YtkpnfbdoaljkpaaGreatDoor.Ab
open Go.RowKit
set_option linter.all false
theorem iq:∀ (j:Nat) (r:List (List D)),(dr j r).length=r.length - j
 | 0,r=>rfl
 | j+1,r=>by rw [dr,jby,iq j r];omega
theorem SmW.drop {r:List (List D)} (h:SmW r):SmW (r.drop 1):=by
 intro k hk
 rw [jby] at hk
 have e:wAt (r.drop 1) k=wAt r (k+1):=by
  have e2:(r.drop 1).getD k []=r.getD (k+1) []:=by
   rw [jaY,jaY,jb3,Nat.add_comm]
  unfold wAt
  rw [e2]
 rw [e]
 exact h _ (by omega)
theorem SmW.dr {r:List (List D)} (h:SmW r):∀ j,SmW (Ab.dr j r)
 | 0=>h
 | j+1=>(SmW.dr h j).drop
theorem okN_num {r:List (List D)} {j:Nat} (h:j < 12):okN r (j+1)=ok1 (dr j r) (okN r j):=by rw [okN,if_neg (by omega)]
theorem ok1_T {r:List (List D)} {b:Bool} (h:ok1 r b=true):r.length ≠ 0∧b=true∧(gj r).2=true:=by
 unfold ok1 okW at h
 rw [ja6] at h
 split at h
 · cases h.1
 · exact ⟨by assumption,h.1,h.2⟩
theorem ok2_T {r:List (List D)} {b:Bool} (h:ok2 r b=true):r.length ≠ 0∧b=true∧(decT (hdW r)).2=true:=by
 unfold ok2 okW at h
 rw [ja6] at h
 split at h
 · cases h.1
 · exact ⟨by assumption,h.1,h.2⟩
theorem ok5_T {r:List (List D)} {b:Bool} (h:ok5 r b=true):5≤r.length∧b=true:=by
 unfold ok5 at h
 have h4:=ok2_T h
 have h3:=ok2_T h4.2.1
 have h2:=ok1_T h3.2.1
 have h1:=ok1_T h2.2.1
 have h0:=ok1_T h1.2.1
 have:=h4.1
 rw [iq] at this
 exact ⟨by omega,h0.2.1⟩
theorem dn {r:List (List D)} (h:SmW r):(decT (hdW r)).1.size≤1048576:=ja0 (oa _) (ls h)
theorem mg {pv:ByteArray→List D × Bool} {c:Int} {m i:Nat} {r:List (List D)} {b:Bool} {out:List (List D)} (h:¬ ((i:Int) < c∧b=true)):rdsI pv c m i r b out=(r,b,out):=by
 cases m with
 | zero=>rfl
 | succ m=>rw [rdsI,if_neg h]
theorem rl {pv:ByteArray→List D × Bool} {c:Int} {m i:Nat} {r:List (List D)} {out:List (List D)} (h1:(i:Int) < c):rdsI pv c (m+1) i r true out=rdsI pv c m (i+1) (dr 5 r) (ok5 r true) (out++[rowI pv r]):=by
 rw [rdsI,if_pos ⟨h1,rfl⟩]
theorem zf {f:List (List D)→List (List D)→Bool→Int→Snap} {r r' q q' : List (List D)} {b b' : Bool} {k k' : Int} (h:r=r') (h1:q=q') (h2:b=b') (h3:k=k'):f r q b k=f r' q' b' k' := by rw [h,h1,h2,h3]
structure PvOk (pv:ByteArray→List D × Bool):Prop where
 len:∀ w,(pv w).1.length=7
 back:∀ w,((pv w).1.getD 0 default).int=1∨((pv w).1.getD 0 default).int=6→bF (pv w).1=w
theorem jah {v:List D} (hk:(v.getD 0 default).int=1∨(v.getD 0 default).int=6):fmtV v=bF v:=by
 rw [cr]
 unfold cy
 rcases hk with h|h
 · rw [if_pos h,lu h]
 · have h' : iAt v 0=6:=h
   rw [if_neg (by omega),if_neg (by omega),if_neg (by omega),if_neg (by omega),if_pos h',lv h]
theorem rt {v:List D} (hc:Can v) (e:Bool) (w:ByteArray):(pvOf v e w).1.length=7∧(((pvOf v e w).1.getD 0 default).int=1∨((pvOf v e w).1.getD 0 default).int=6→bF (pvOf v e w).1=w):=by
 cases h:(pvOf v e w).2 with
 | false =>
   rw [rv h]
   exact ⟨rfl,fun hk=>by rcases hk with hk|hk <;> exact absurd hk (by decide)⟩
 | true =>
   obtain ⟨_,_,hs,he⟩:=ru h
   rw [he]
   refine ⟨by cases hc <;> rfl,fun hk=>?_⟩
   rw [← jah hk]
   apply jcf
   apply jcc
   exact hs.symm
theorem zw (n:Nat):PvOk (pvS n):=⟨fun w=>(rt (lE n 0) _ w).1,fun w=>(rt (lE n 0) _ w).2⟩
def RdF (pv:ByteArray→List D × Bool) (r:List D):Prop:=∃ (a b c:Int) (t w:ByteArray),r=[.i a,.i b,.i c,.s t]++(pv w).1
theorem mf {pv:ByteArray→List D × Bool} {rows:List (List D)} {c:Int}:∀ (m i:Nat) (out:List (List D)),(∀ r ∈ out,RdF pv r)→∀ r ∈ rdsS pv rows c m i out,RdF pv r
 | 0,i,out,h,r,hr=>h r hr
 | m+1,i,out,h,r,hr=>by
   rw [rdsS] at hr
   split at hr
   · refine mf m (i+1) _ (fun x hx=>?_) r hr
     rcases jbt.1 hx with hx|hx
     · exact h x hx
     · obtain rfl:=jbK.1 hx
       exact ⟨_,_,_,_,_,rfl⟩
   · exact h r hr
theorem mh {pv:ByteArray→List D × Bool} {c:Int}:∀ (m i:Nat) (q:List (List D)) (b:Bool) (out:List (List D)),(∀ r ∈ out,RdF pv r)→∀ r ∈ (rdsI pv c m i q b out).2.2,RdF pv r
 | 0,i,q,b,out,h,r,hr=>h r hr
 | m+1,i,q,b,out,h,r,hr=>by
   rw [rdsI] at hr
   split at hr
   · refine mh m (i+1) _ _ _ (fun x hx=>?_) r hr
     rcases jbt.1 hx with hx|hx
     · exact h x hx
     · obtain rfl:=jbK.1 hx
       exact ⟨_,_,_,_,_,rfl⟩
   · exact h r hr
theorem nU (b:UInt8):∀ x ∈ Lib.Hx.encode [b],x ≠ 32:=by
 have:∀ n:Fin 256, ∀ x ∈ Lib.Hx.encode [UInt8.ofNat n.val],x ≠ 32:=by decide +kernel
 have:=this ⟨b.toNat,b.toNat_lt⟩
 rwa [show UInt8.ofNat (⟨b.toNat,b.toNat_lt⟩:Fin 256).val=b by simp] at this
theorem mO (s:ByteArray):∀ x ∈ (encB s).data.toList,x ≠ 32:=by
 unfold encB
 split
 · intro x hx
   have:x=45:=by simpa using hx
   subst this;decide
 · have:∀ l:List UInt8, ∀ x ∈ Lib.Hx.encode l,x ≠ 32:=by
    intro l
    induction l with
    | nil=>intro x hx;cases hx
    | cons b l ih =>
      intro x hx
      have e:Lib.Hx.encode (b :: l)=Lib.Hx.encode [b]++Lib.Hx.encode l:=by simp [Lib.Hx.encode]
      rw [e] at hx
      rcases jbt.1 hx with hx|hx
      · exact nU b x hx
      · exact ih x hx
   intro x hx
   exact this _ x (by simpa using hx)
theorem ml (n:Int):∀ x ∈ (aM n).data.toList,x ≠ 32:=by rw [bT];exact mr n
abbrev ma (a:List D):List (List D):=aI a (rds a).length
theorem ij (a:List D):∀ r ∈ ma a,(∃ n:Int,r=numW n)∨∃ s:ByteArray,r=encW s:=by
 intro r hr
 unfold ma aI dk dl at hr
 simp only [jbt] at hr
 rcases hr with ((hr|hr)|hr)|hr
 · obtain ⟨x,_,rfl⟩:=jbB.1 hr
   exact .inl ⟨_,rfl⟩
 · simp only [ja1,jaX,or_false] at hr
   rcases hr with rfl|rfl|rfl|rfl <;> exact .inr ⟨_,rfl⟩
 · simp only [ja1,jaX,or_false] at hr
   rcases hr with rfl|rfl|rfl <;> exact .inl ⟨_,rfl⟩
 · obtain ⟨x,_,hr⟩:=jct.1 hr
   unfold bd at hr
   simp only [ja1,jaX,or_false] at hr
   rcases hr with rfl|rfl|rfl|rfl|rfl
   · exact .inl ⟨_,rfl⟩
   · exact .inl ⟨_,rfl⟩
   · exact .inl ⟨_,rfl⟩
   · exact .inr ⟨_,rfl⟩
   · exact .inr ⟨_,rfl⟩
theorem ol {a:List D} {s:ByteArray} (hg:bi a=true) (h:(ba a).toList=s.toList):af (ao s)=ma a:=by
 rw [aF] at h
 subst h
 unfold ba
 rw [if_pos hg,j7]
 · unfold af strsOf
   rw [jci]
   conv=>rhs;rw [← List.map_id (ma a)]
   refine jco fun r hr=>?_
   rcases ij a r hr with ⟨n,rfl⟩|⟨t,rfl⟩ <;> rfl
 · intro e
   have:=congrArg List.length e
   rw [strsOf,ja5,bm (ja9 _)] at this
   simp at this
 · intro t ht
   obtain ⟨r,hr,rfl⟩:=jbB.1 ht
   rcases ij a r hr with ⟨n,rfl⟩|⟨t,rfl⟩
   · exact ml n
   · exact mO t
theorem inR9 {n:Int} (h:inR n (-1000000000) 1000000000=true):-1000000000≤n∧n≤1000000000:=by
 unfold inR at h
 rw [ja6,decide_eq_true_eq,decide_eq_true_eq] at h
 omega
theorem bI {W:List (List D)} {k:Nat} {n:Int} (h:inR n (-1000000000) 1000000000=true) (e:W[k]? = some (numW n)):numS W k=n:=by
 have hk:k < W.length:=(ja3.1 e).1
 unfold numS
 rw [if_pos hk,show wAt W k=aM n by unfold wAt;rw [show W.getD k []=numW n by rw [jaY,e];rfl];rfl]
 have:=inR9 h
 rw [fG (by omega) (by omega) rfl]
theorem gK {W:List (List D)} {k:Nat} {t:ByteArray} (e:W[k]? = some (encW t)):txtS W k=t:=by
 have hk:k < W.length:=(ja3.1 e).1
 unfold txtS
 rw [if_pos hk,show wAt W k=encB t by unfold wAt;rw [show W.getD k []=encW t by rw [jaY,e];rfl];rfl,mU]
theorem jy {r:List (List D)} {n:Int} (h:inR n (-1000000000) 1000000000=true):gj (numW n :: r)=(n,true):=by
 have:=inR9 h
 exact fG (by omega) (by omega) rfl
theorem kJ {r:List (List D)} {t:ByteArray}:decT (hdW (encW t :: r))=(t,true):=mU t
theorem ok1_c {r:List (List D)} {n:Int} (h:inR n (-1000000000) 1000000000=true):ok1 (numW n :: r) true=true:=by
 unfold ok1
 rw [jy h]
 rfl
theorem ok2_c {r:List (List D)} {t:ByteArray}:ok2 (encW t :: r) true=true:=by
 unfold ok2
 rw [kJ]
 rfl
structure GoodForm (pv:ByteArray→List D × Bool) (a0 a1 a2 x y z e0 e1 c0 c1 c2:Int) (nm cd:ByteArray) (cn:Int) (fr tt:ByteArray) (ce ve:Int) (rd:List (List D)):Prop where
 n:∀ i ∈ [a0,a1,a2,x,y,z,e0,e1,c0,c1,c2,cn,ce,ve],inR i (-1000000000) 1000000000=true
 r:∀ r ∈ rd, ∃ (a b c:Int) (t:ByteArray) (v:List D),r=[.i a,.i b,.i c,.s t]++v∧v.length=7∧(pv (bF v)).1=v∧inR a (-1000000000) 1000000000=true∧inR b (-1000000000) 1000000000=true∧inR c (-1000000000) 1000000000=true
theorem sub7 {a b c:Int} {t:ByteArray} {v:List D} (h:v.length=7):sub ([.i a,.i b,.i c,.s t]++v) 4 7=v:=by
 match v,h with
 | [_,_,_,_,_,_,_],_=>rfl
theorem mC {pv:ByteArray→List D × Bool} (hp:PvOk pv) {a0 a1 a2 x y z e0 e1 c0 c1 c2:Int} {nm cd:ByteArray} {cn:Int} {fr tt:ByteArray} {ce ve:Int} {rd:List (List D)}
 (hr:∀ r ∈ rd,RdF pv r) (hg:bi (opOf a0 a1 a2 [[.i x],[.i y],[.i z]] e0 e1 c0 c1 c2 nm cd cn fr tt ce ve rd)=true):GoodForm pv a0 a1 a2 x y z e0 e1 c0 c1 c2 nm cd cn fr tt ce ve rd:=by
 unfold bi at hg
 rw [ja6,ja6] at hg
 have hn:=jbg.1 hg.2.1
 have hn' : ∀ i:Int,numI i ∈ aB (opOf a0 a1 a2 [[.i x],[.i y],[.i z]] e0 e1 c0 c1 c2 nm cd cn fr tt ce ve rd) (rds (opOf a0 a1 a2 [[.i x],[.i y],[.i z]] e0 e1 c0 c1 c2 nm cd cn fr tt ce ve rd)).length→inR i (-1000000000) 1000000000=true:=fun i h=>hn _ h
 have hd:aB (opOf a0 a1 a2 [[.i x],[.i y],[.i z]] e0 e1 c0 c1 c2 nm cd cn fr tt ce ve rd) (rds (opOf a0 a1 a2 [[.i x],[.i y],[.i z]] e0 e1 c0 c1 c2 nm cd cn fr tt ce ve rd)).length=[numI a0,numI a1,numI a2,numI x,numI y,numI z,numI e0,numI e1,numI c0,numI c1,numI c2,numI cn,numI ce,numI ve]++rd.flatMap dW:=by
  show _++(rd.take rd.length).flatMap dW=_
  rw [jbM]
  rfl
 rw [hd] at hn'
 refine ⟨fun i hi=>hn' i (jcA _ (by
  simp only [ja1,jaX,or_false] at hi ⊢
  rcases hi with rfl|rfl|rfl|rfl|rfl|rfl|rfl|rfl|rfl|rfl|rfl|rfl|rfl|rfl <;> simp)),fun r h=>?_⟩
 obtain ⟨a,b,c,t,w,rfl⟩:=hr r h
 have hk:=ci (jbg.1 hg.1 _ h)
 rw [sub7 (hp.len w)] at hk
 have hm:∀ i:Int,numI i ∈ dW ([.i a,.i b,.i c,.s t]++(pv w).1)→inR i (-1000000000) 1000000000=true:=fun i hi=>hn' i (List.mem_append_right _ (jct.2 ⟨_,h,hi⟩))
 exact ⟨a,b,c,t,_,rfl,hp.len w,by rw [hp.back w hk],hm a (by simp [dW,ints,numI,D.int]),hm b (by simp [dW,ints,numI,D.int]),hm c (by simp [dW,ints,numI,D.int])⟩
section
variable {pv:ByteArray→List D × Bool} {a0 a1 a2 x y z e0 e1 c0 c1 c2:Int} {nm cd:ByteArray} {cn:Int} {fr tt:ByteArray} {ce ve:Int} {rd:List (List D)}
theorem lL:ma (opOf a0 a1 a2 [[.i x],[.i y],[.i z]] e0 e1 c0 c1 c2 nm cd cn fr tt ce ve rd) =
 numW a0 :: numW a1 :: numW a2 :: numW x :: numW y :: numW z :: numW e0 :: numW e1 :: numW c0 :: numW c1 :: numW c2 :: numW cn :: encW nm :: encW cd :: encW fr :: encW tt :: numW ce :: numW ve :: numW (rd.length:Int) :: rd.flatMap bd:=by
 show _++(rd.take rd.length).flatMap bd=_
 rw [jbM]
 rfl
theorem oR {a b c:Int} {t:ByteArray} {v:List D} (h:v.length=7):bd ([.i a,.i b,.i c,.s t]++v)=[numW a,numW b,numW c,encW t,encW (bF v)]:=by
 unfold bd
 rw [sub7 h]
 rfl
theorem getD_drop {W l:List (List D)} {k:Nat} (h:W.drop k=l) (j:Nat):W[k+j]? = l[j]? := by rw [← h,jb3]
theorem rk (h:∀ r ∈ rd, ∃ (a b c:Int) (t:ByteArray) (v:List D),r=[.i a,.i b,.i c,.s t]++v∧v.length=7∧(pv (bF v)).1=v∧inR a (-1000000000) 1000000000=true∧inR b (-1000000000) 1000000000=true∧inR c (-1000000000) 1000000000=true) {W:List (List D)} {n:Int} :
 ∀ (m i:Nat) (out:List (List D)),W.drop (19+5 * i)=rd.flatMap bd→(i:Int)+rd.length=n→rd.length≤m→rdsS pv W n m i out=out++rd:=by
 induction rd with
 | nil =>
   intro m i out hd hn hm
   have:¬ ((i:Int) < n∧19+5 * i < W.length):=by simp only [jbh] at hn;omega
   cases m with
   | zero=>simp [rdsS]
   | succ m=>rw [rdsS,if_neg this,jch]
 | cons r l ih =>
   intro m i out hd hn hm
   obtain ⟨a,b,c,t,v,rfl,hv,hb,i1,i2,i3⟩:=h r (jbo ..)
   rw [jcN,oR hv] at hd
   have hlt:19+5 * i < W.length:=by
    apply Nat.lt_of_not_le
    intro hle
    rw [jcJ hle] at hd
    cases hd
   rw [ja8] at hn hm
   obtain ⟨m,rfl⟩:∃ k,m=k+1:=⟨m - 1,by omega⟩
   rw [rdsS,if_pos ⟨by omega,hlt⟩]
   have er:rowS pv W (19+5 * i)=[.i a,.i b,.i c,.s t]++v:=by
    unfold rowS
    rw [bI (k:=19+5 * i) (n:=a) i1 (getD_drop hd 0),bI (n:=b) i2 (getD_drop hd 1),bI (n:=c) i3 (getD_drop hd 2),gK (t:=t) (getD_drop hd 3),gK (t:=bF v) (getD_drop hd 4),hb]
   rw [er,ih (fun r hr=>h r (jbC _ hr)) m (i+1) _ ?_ (by push_cast;omega) (by omega),jbz]
   · rfl
   · rw [show 19+5 * (i+1)=(19+5 * i)+5 by omega, ← List.drop_drop,hd];rfl
theorem rm (h:∀ r ∈ rd, ∃ (a b c:Int) (t:ByteArray) (v:List D),r=[.i a,.i b,.i c,.s t]++v∧v.length=7∧(pv (bF v)).1=v∧inR a (-1000000000) 1000000000=true∧inR b (-1000000000) 1000000000=true∧inR c (-1000000000) 1000000000=true) {n:Int} :
 ∀ (m i:Nat) (out:List (List D)),(i:Int)+rd.length=n→rd.length≤m→rdsI pv n m i (rd.flatMap bd) true out=([],true,out++rd):=by
 induction rd with
 | nil =>
   intro m i out hn hm
   have:¬ ((i:Int) < n∧true=true):=by simp only [jbh] at hn;omega
   rw [mg this,jch]
   rfl
 | cons r l ih =>
   intro m i out hn hm
   obtain ⟨a,b,c,t,v,rfl,hv,hb,i1,i2,i3⟩:=h r (jbo ..)
   rw [jcN,oR hv]
   rw [ja8] at hn hm
   obtain ⟨m,rfl⟩:∃ k,m=k+1:=⟨m - 1,by omega⟩
   rw [rl (by omega)]
   have er:rowI pv ([numW a,numW b,numW c,encW t,encW (bF v)]++l.flatMap bd)=[.i a,.i b,.i c,.s t]++v:=by
    unfold rowI
    show [D.i (gj (numW a :: _)).1,.i (gj (numW b :: _)).1,.i (gj (numW c :: _)).1,.s (decT (hdW (encW t :: _))).1]++(pv (decT (hdW (encW (bF v) :: _))).1).1=_
    rw [jy i1,jy i2,jy i3,kJ,kJ,hb]
   have eo:ok5 ([numW a,numW b,numW c,encW t,encW (bF v)]++l.flatMap bd) true=true:=by
    unfold ok5
    show ok2 (encW (bF v) :: _) (ok2 (encW t :: _) (ok1 (numW c :: _) (ok1 (numW b :: _) (ok1 (numW a :: _) true))))=true
    rw [ok1_c i1,ok1_c i2,ok1_c i3,ok2_c,ok2_c]
   rw [er,eo]
   show rdsI pv n m (i+1) (l.flatMap bd) true _=_
   rw [ih (fun r hr=>h r (jbC _ hr)) m (i+1) _ (by push_cast;omega) (by omega),jbz]
   rfl
theorem tS (g:GoodForm pv a0 a1 a2 x y z e0 e1 c0 c1 c2 nm cd cn fr tt ce ve rd) (hl:rd.length≤1048577) {W:List (List D)}
 (hW:W=numW a0 :: numW a1 :: numW a2 :: numW x :: numW y :: numW z :: numW e0 :: numW e1 :: numW c0 :: numW c1 :: numW c2 :: numW cn :: encW nm :: encW cd :: encW fr :: encW tt :: numW ce :: numW ve :: numW (rd.length:Int) :: rd.flatMap bd) :
 opS W (rdsS pv W (numS W 18) (W.length+1) 0 [])=opOf a0 a1 a2 [[.i x],[.i y],[.i z]] e0 e1 c0 c1 c2 nm cd cn fr tt ce ve rd:=by
 have n:=g.n
 simp only [ja1,jaX,or_false,forall_eq_or_imp,forall_eq] at n
 obtain ⟨n0,n1,n2,n3,n4,n5,n6,n7,n8,n9,n10,n11,n14,n15⟩:=n
 have nl:inR (rd.length:Int) (-1000000000) 1000000000=true:=by unfold inR;simp only [ja6,decide_eq_true_eq];omega
 have hlen:rd.length≤W.length+1:=by
  rw [hW]
  simp only [ja8,gw bd 5 (fun _=>rfl)]
  omega
 have r:rdsS pv W (numS W 18) (W.length+1) 0 []=rd:=by
  rw [bI (k:=18) nl (by rw [hW];rfl),rk g.r (W.length+1) 0 [] (by rw [hW];rfl) (by simp) hlen,ja2]
 rw [r]
 have es:qW W 3=[[.i (numS W 3)],[.i (numS W 4)],[.i (numS W 5)]]:=rfl
 unfold opS
 rw [es,bI (k:=0) n0 (by rw [hW];rfl),bI (k:=1) n1 (by rw [hW];rfl),bI (k:=2) n2 (by rw [hW];rfl),bI (k:=3) n3 (by rw [hW];rfl),bI (k:=4) n4 (by rw [hW];rfl),bI (k:=5) n5 (by rw [hW];rfl),
  bI (k:=6) n6 (by rw [hW];rfl),bI (k:=7) n7 (by rw [hW];rfl),bI (k:=8) n8 (by rw [hW];rfl),bI (k:=9) n9 (by rw [hW];rfl),bI (k:=10) n10 (by rw [hW];rfl),bI (k:=11) n11 (by rw [hW];rfl),
  gK (k:=12) (t:=nm) (by rw [hW];rfl),gK (k:=13) (t:=cd) (by rw [hW];rfl),gK (k:=14) (t:=fr) (by rw [hW];rfl),gK (k:=15) (t:=tt) (by rw [hW];rfl),bI (k:=16) n14 (by rw [hW];rfl),bI (k:=17) n15 (by rw [hW];rfl)]
theorem cg {W r:List (List D)} {j:Nat} {n:Int} (h:inR n (-1000000000) 1000000000=true) (e:dr j W=numW n :: r):numi W j=n:=by
 unfold numi
 rw [e,jy h]
theorem kH {W r:List (List D)} {j:Nat} {t:ByteArray} (e:dr j W=encW t :: r):txti W j=t:=by
 unfold txti
 rw [e,kJ]
theorem okN1 {W r:List (List D)} {j:Nat} {n:Int} (h:inR n (-1000000000) 1000000000=true) (e:dr j W=numW n :: r) (hj:¬ (12≤j∧j < 16)) (h1:okN W j=true):okN W (j+1)=true:=by
 rw [okN,if_neg hj,e,h1,ok1_c h]
theorem okN2 {W r:List (List D)} {j:Nat} {t:ByteArray} (e:dr j W=encW t :: r) (hj:12≤j∧j < 16) (h1:okN W j=true):okN W (j+1)=true:=by
 rw [okN,if_pos hj,e,h1,ok2_c]
theorem tT (g:GoodForm pv a0 a1 a2 x y z e0 e1 c0 c1 c2 nm cd cn fr tt ce ve rd) (hl:rd.length≤1048577) {W:List (List D)}
 (hW:W=numW a0 :: numW a1 :: numW a2 :: numW x :: numW y :: numW z :: numW e0 :: numW e1 :: numW c0 :: numW c1 :: numW c2 :: numW cn :: encW nm :: encW cd :: encW fr :: encW tt :: numW ce :: numW ve :: numW (rd.length:Int) :: rd.flatMap bd) :
 rdsI pv (numi W 18) (W.length+2) 0 (dr 19 W) (okN W 19) []=([],true,rd)∧opI W rd=opOf a0 a1 a2 [[.i x],[.i y],[.i z]] e0 e1 c0 c1 c2 nm cd cn fr tt ce ve rd:=by
 have n:=g.n
 simp only [ja1,jaX,or_false,forall_eq_or_imp,forall_eq] at n
 obtain ⟨n0,n1,n2,n3,n4,n5,n6,n7,n8,n9,n10,n11,n14,n15⟩:=n
 have nl:inR (rd.length:Int) (-1000000000) 1000000000=true:=by unfold inR;simp only [ja6,decide_eq_true_eq];omega
 have hlen:rd.length≤W.length+2:=by
  rw [hW]
  simp only [ja8,gw bd 5 (fun _=>rfl)]
  omega
 have ok:okN W 19=true :=
  okN1 nl (by rw [hW];rfl) (by decide) (okN1 n15 (by rw [hW];rfl) (by decide) (okN1 n14 (by rw [hW];rfl) (by decide)
   (okN2 (t:=tt) (by rw [hW];rfl) (by decide) (okN2 (t:=fr) (by rw [hW];rfl) (by decide) (okN2 (t:=cd) (by rw [hW];rfl) (by decide) (okN2 (t:=nm) (by rw [hW];rfl) (by decide)
   (okN1 n11 (by rw [hW];rfl) (by decide) (okN1 n10 (by rw [hW];rfl) (by decide) (okN1 n9 (by rw [hW];rfl) (by decide) (okN1 n8 (by rw [hW];rfl) (by decide) (okN1 n7 (by rw [hW];rfl) (by decide) (okN1 n6 (by rw [hW];rfl) (by decide)
   (okN1 n5 (by rw [hW];rfl) (by decide) (okN1 n4 (by rw [hW];rfl) (by decide) (okN1 n3 (by rw [hW];rfl) (by decide) (okN1 n2 (by rw [hW];rfl) (by decide) (okN1 n1 (by rw [hW];rfl) (by decide) (okN1 n0 (by rw [hW];rfl) (by decide) rfl))))))))))))))))))
 have hd:dr 19 W=rd.flatMap bd:=by rw [hW];rfl
 refine ⟨by rw [cg (j:=18) nl (by rw [hW];rfl),ok,hd,rm g.r (W.length+2) 0 [] (by simp) hlen,ja2],?_⟩
 have es:gQ W 3=[[.i (numi W 3)],[.i (numi W 4)],[.i (numi W 5)]]:=rfl
 unfold opI
 rw [es,cg (j:=0) n0 (by rw [hW];rfl),cg (j:=1) n1 (by rw [hW];rfl),cg (j:=2) n2 (by rw [hW];rfl),cg (j:=3) n3 (by rw [hW];rfl),cg (j:=4) n4 (by rw [hW];rfl),cg (j:=5) n5 (by rw [hW];rfl),
  cg (j:=6) n6 (by rw [hW];rfl),cg (j:=7) n7 (by rw [hW];rfl),cg (j:=8) n8 (by rw [hW];rfl),cg (j:=9) n9 (by rw [hW];rfl),cg (j:=10) n10 (by rw [hW];rfl),cg (j:=11) n11 (by rw [hW];rfl),
  kH (j:=12) (t:=nm) (by rw [hW];rfl),kH (j:=13) (t:=cd) (by rw [hW];rfl),kH (j:=14) (t:=fr) (by rw [hW];rfl),kH (j:=15) (t:=tt) (by rw [hW];rfl),cg (j:=16) n14 (by rw [hW];rfl),cg (j:=17) n15 (by rw [hW];rfl)]
end
theorem zD {o:List D} {e:Bool} {s:ByteArray} (h:(ba o).toList=s.toList) (he:e=true):poOf o e s=(o,true):=if_pos ⟨he,h⟩
theorem vi {o:List D} {e:Bool} {s:ByteArray} (h:¬ (e=true∧(ba o).toList=s.toList)):poOf o e s=(bV,false):=if_neg h
theorem xu (n:Int):Lib.itoa n ≠ []:=by
 obtain ⟨b,r,h,_⟩:=en n
 rw [h];simp
theorem sj {a:List D} {s:ByteArray} (h:(ba a).toList=s.toList) (hs:s.toList ≠ []):bi a=true:=by
 cases hg:bi a with
 | true=>rfl
 | false =>
   unfold ba at h
   rw [if_neg (by rw [hg];decide)] at h
   rw [bG] at h
   exact absurd h.symm hs
theorem me {a0 a1 a2 x y z e0 e1 c0 c1 c2:Int} {nm cd:ByteArray} {cn:Int} {fr tt:ByteArray} {ce ve:Int} {rd:List (List D)} {s:ByteArray} (hs:s.size≤1048576)
 (h:af (ao s)=numW a0 :: numW a1 :: numW a2 :: numW x :: numW y :: numW z :: numW e0 :: numW e1 :: numW c0 :: numW c1 :: numW c2 :: numW cn :: encW nm :: encW cd :: encW fr :: encW tt :: numW ce :: numW ve :: numW (rd.length:Int) :: rd.flatMap bd):rd.length≤1048577:=by
 have:=nx s hs
 rw [h] at this
 simp only [ja8,gw bd 5 (fun _=>rfl)] at this
 omega
theorem okN_mono {W:List (List D)}:∀ j,okN W (j+1)=true→okN W j=true:=by
 intro j h
 rw [okN] at h
 split at h
 · exact (ok2_T h).2.1
 · exact (ok1_T h).2.1
theorem okN_1 {W:List (List D)}:∀ j,okN W (j+1)=true→okN W 1=true
 | 0,h=>h
 | j+1,h=>okN_1 j (okN_mono _ h)
theorem zq {pv:ByteArray→List D × Bool} {c:Int}:∀ (m i:Nat) (q:List (List D)) (b:Bool) (out:List (List D)),(rdsI pv c m i q b out).2.1=true→b=true
 | 0,i,q,b,out,h=>h
 | m+1,i,q,b,out,h=>by
   rw [rdsI] at h
   split at h
   · rename_i hc;exact hc.2
   · exact h
theorem po_same {pv:ByteArray→List D × Bool} (hp:PvOk pv) {s:ByteArray} (hs:s.size≤1048576):poS pv s=poI pv s:=by
 by_cases hS:(!(s.toList == []))=true∧(ba (opS (af (ao s)) (rdsS pv (af (ao s)) (numS (af (ao s)) 18) ((af (ao s)).length+1) 0 []))).toList=s.toList
 · have hg:=sj hS.2 (by simpa using hS.1)
   have hw:=ol hg hS.2
   have gf:=mC hp (mf _ _ _ (fun r hr=>by cases hr)) hg
   rw [show opS _ _=opOf _ _ _ [[.i _],[.i _],[.i _]] _ _ _ _ _ _ _ _ _ _ _ _ _ from rfl,lL] at hw
   obtain ⟨hr,ho⟩:=tT gf (me hs hw) hw
   unfold poS poI
   rw [hr,ho]
   exact (zD hS.2 hS.1).trans (zD hS.2 rfl).symm
 · unfold poS
   rw [vi hS]
   symm
   unfold poI
   refine vi fun hI=>hS ?_
   have hne:s.toList ≠ []:=by
    intro h0
    have hb:=zq _ _ _ _ _ (Bool.and_eq_true_iff.1 hI.1).1
    have h1:=okN_1 18 hb
    rw [← bG,aF] at h0
    subst h0
    have h2:=(ok1_T (show ok1 (af (ao ⟨#[]⟩)) true=true from h1)).2.2
    have h3:=ry h2
    have h4:=congrArg (fun b:ByteArray=>b.data.toList) h3
    rw [bT] at h4
    exact xu _ h4
   have hg:=sj hI.2 hne
   have hw:=ol hg hI.2
   have gf:=mC hp (mh _ _ _ _ _ (fun r hr=>by cases hr)) hg
   rw [show opI _ _=opOf _ _ _ [[.i _],[.i _],[.i _]] _ _ _ _ _ _ _ _ _ _ _ _ _ from rfl,lL] at hw
   have ho:=tS gf (me hs hw) hw
   refine ⟨by simpa using hne,?_⟩
   rw [ho]
   exact hI.2
end Go.Proofs.YtkpnfbdoaljkpaaGreatDoor.Ab
