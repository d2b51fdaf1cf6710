/- Operations and records read back, in plain Lean. No program in -/
import Derived.Test.YtcllpknipmcolaaGreatDoorCOi
import Derived.Test.YtcllpknipmcolaaGreatDoorCJe
namespace Go.Proofs.YtcllpknipmcolaaGreatDoor.Ab
open Go.RowKit
set_option linter.all false
set_option maxRecDepth 100000
theorem wf_i {T:Tab} {k:IntKind} {d:D} (h:WfD T (.i k) d):∃ n,d=.i n:=by cases h;exact ⟨_,rfl⟩
theorem wf_s {T:Tab} {d:D} (h:WfD T .s d):∃ n,d=.s n:=by cases h;exact ⟨_,rfl⟩
theorem wf_l {T:Tab} {e:TypeId} {d:D} (h:WfD T (.l e) d):∃ n,d=.l n:=by cases h <;> exact ⟨_,rfl⟩
theorem yD {o:List D} (w:WfRow T cO o):∃ a0 a1 a2 sn e0 e1 c0 c1 c2 nm cd cn fr tt ce ve rd,o=opOf a0 a1 a2 sn e0 e1 c0 c1 c2 nm cd cn fr tt ce ve rd:=by
 have hl:o.length=17:=w.1
 match o,hl with
 | [x0,x1,x2,x3,x4,x5,x6,x7,x8,x9,x10,x11,x12,x13,x14,x15,x16],_ =>
   obtain ⟨a0,rfl⟩:=wf_i (w.2 0 _ _ rfl rfl)
   obtain ⟨a1,rfl⟩:=wf_i (w.2 1 _ _ rfl rfl)
   obtain ⟨a2,rfl⟩:=wf_i (w.2 2 _ _ rfl rfl)
   obtain ⟨sn,rfl⟩:=wf_l (w.2 3 _ _ rfl rfl)
   obtain ⟨e0,rfl⟩:=wf_i (w.2 4 _ _ rfl rfl)
   obtain ⟨e1,rfl⟩:=wf_i (w.2 5 _ _ rfl rfl)
   obtain ⟨c0,rfl⟩:=wf_i (w.2 6 _ _ rfl rfl)
   obtain ⟨c1,rfl⟩:=wf_i (w.2 7 _ _ rfl rfl)
   obtain ⟨c2,rfl⟩:=wf_i (w.2 8 _ _ rfl rfl)
   obtain ⟨nm,rfl⟩:=wf_s (w.2 9 _ _ rfl rfl)
   obtain ⟨cd,rfl⟩:=wf_s (w.2 10 _ _ rfl rfl)
   obtain ⟨cn,rfl⟩:=wf_i (w.2 11 _ _ rfl rfl)
   obtain ⟨fr,rfl⟩:=wf_s (w.2 12 _ _ rfl rfl)
   obtain ⟨tt,rfl⟩:=wf_s (w.2 13 _ _ rfl rfl)
   obtain ⟨ce,rfl⟩:=wf_i (w.2 14 _ _ rfl rfl)
   obtain ⟨ve,rfl⟩:=wf_i (w.2 15 _ _ rfl rfl)
   obtain ⟨rd,rfl⟩:=wf_l (w.2 16 _ _ rfl rfl)
   exact ⟨a0,a1,a2,sn,e0,e1,c0,c1,c2,nm,cd,cn,fr,tt,ce,ve,rd,rfl⟩
theorem yu {r:List D} (w:WfRow T cRd r):∃ (a b c:Int) (t:ByteArray) (k n s:Int) (x:ByteArray) (l4 l5 l6:List (List D)),r=[.i a,.i b,.i c,.s t]++val7 k n s x l4 l5 l6:=by
 have hl:r.length=11:=w.1
 match r,hl with
 | [x0,x1,x2,x3,x4,x5,x6,x7,x8,x9,x10],_ =>
   obtain ⟨a0,rfl⟩:=wf_i (w.2 0 _ _ rfl rfl)
   obtain ⟨a1,rfl⟩:=wf_i (w.2 1 _ _ rfl rfl)
   obtain ⟨a2,rfl⟩:=wf_i (w.2 2 _ _ rfl rfl)
   obtain ⟨a3,rfl⟩:=wf_s (w.2 3 _ _ rfl rfl)
   obtain ⟨a4,rfl⟩:=wf_i (w.2 4 _ _ rfl rfl)
   obtain ⟨a5,rfl⟩:=wf_i (w.2 5 _ _ rfl rfl)
   obtain ⟨a6,rfl⟩:=wf_i (w.2 6 _ _ rfl rfl)
   obtain ⟨a7,rfl⟩:=wf_s (w.2 7 _ _ rfl rfl)
   obtain ⟨a8,rfl⟩:=wf_l (w.2 8 _ _ rfl rfl)
   obtain ⟨a9,rfl⟩:=wf_l (w.2 9 _ _ rfl rfl)
   obtain ⟨a10,rfl⟩:=wf_l (w.2 10 _ _ rfl rfl)
   exact ⟨a0,a1,a2,a3,a4,a5,a6,a7,a8,a9,a10,rfl⟩
theorem okVal_form {k n s:Int} {x:ByteArray} {l4 l5 l6:List (List D)} (hk:k=1∨k=6) (h:okVal (val7 k n s x l4 l5 l6)=true):(val7 k n s x l4 l5 l6=vNum n∧inR n (-1000000000) 1000000000=true)∨(val7 k n s x l4 l5 l6=vErr n∧inR n 1 8=true):=by
 unfold okVal at h
 simp only [jcx] at h
 obtain ⟨⟨⟨⟨⟨h4,h5⟩,h6⟩,hs⟩,hx⟩,hn⟩:=h
 have e4:l4=[]:=jdC (eq_of_beq h4)
 have e5:l5=[]:=jdC (eq_of_beq h5)
 have e6:l6=[]:=jdC (eq_of_beq h6)
 have es:s=0:=eq_of_beq hs
 have ex:x=ES:=by
  have:x.toList=ES.toList:=(eq_of_beq hx).trans nil_toList.symm
  rwa [aZ] at this
 subst e4 e5 e6 es ex
 rcases hk with rfl|rfl
 · exact .inl ⟨rfl,hn⟩
 · exact .inr ⟨rfl,hn⟩
theorem okV_vNum {n:Int} (h:inR n (-1000000000) 1000000000=true):okV (vNum n)=true:=by
 rw [okV_eq]
 unfold okStep
 rw [if_pos (show iAt (vNum n) 0=1 from rfl)]
 rw [show inR (iAt (vNum n) 1) (-1000000000) 1000000000=true from h,jc4]
 show (true && (true && ((false || (ES.toList == [])) && true)))=true
 rw [nil_toList]
 rfl
theorem okV_vErr {n:Int} (h:inR n 1 8=true):okV (vErr n)=true:=by
 rw [okV_eq]
 unfold okStep
 rw [if_neg (by show ¬ (6:Int)=1;decide),if_neg (by show ¬ (6:Int)=2;decide),if_neg (by show ¬ (6:Int)=3;decide),if_neg (by show ¬ (6:Int)=4;decide),if_neg (by show ¬ (6:Int)=5;decide),if_pos (show iAt (vErr n) 0=6 from rfl)]
 rw [show inR (iAt (vErr n) 1) 1 8=true from h,jc4]
 show (true && (true && ((false || (ES.toList == [])) && true)))=true
 rw [nil_toList]
 rfl
theorem pJ {v:List D} (hc:Can v) (ho:okV v=true) (hk:(v.getD 0 default).int=1∨(v.getD 0 default).int=6):pvX (bD v)=(v,true):=by
 have e:fmtV v=bD v:=xh hk
 have h2:=(lp (s:=fmtV v) hc ho rfl (n:=1048577) (by decide)).1
 rw [← e]
 unfold pvX pvS
 rw [h2]
 show pvOf v (((fmtV v).size:Int) == ((fmtV v).size:Int)) _=_
 rw [beq_self_eq_true]
 exact lV ho rfl
theorem seen3 {sn:List (List D)} (h:WfD T (.l 3) (.l sn)) (hs:gv sn=true):∃ x y z:Int,sn=[[.i x],[.i y],[.i z]]:=by
 unfold gv at hs
 rw [jcx,decide_eq_true_eq] at hs
 have hr:∀ k:Nat,k < 3→∃ n:Int,sn[k]? = some [.i n]:=by
  intro k hk
  cases h with
  | nil=>exact absurd hs.2 (by decide)
  | sl _ ty _ h1 h2 h3 h4 =>
    obtain rfl:_=ty:=jcn ((show T 3=some _ from rfl).symm.trans h1)
    have hlt:k < sn.length:=by omega
    have hrow:sn[k]? = some sn[k]:=jcj hlt
    have hlen:sn[k].length=1:=h3 k _ hrow
    match hq:sn[k],hlen with
    | [d],_ =>
      obtain ⟨n,rfl⟩:=wf_i (h4 k 0 _ _ _ hrow rfl (by rw [hq];rfl))
      exact ⟨n,by rw [hrow,hq]⟩
 obtain ⟨x,hx⟩:=hr 0 (by decide)
 obtain ⟨y,hy⟩:=hr 1 (by decide)
 obtain ⟨z,hz⟩:=hr 2 (by decide)
 have hl:sn.length=3:=hs.2
 match sn,hl with
 | [a,b,c],_ =>
   cases hx;cases hy;cases hz
   exact ⟨x,y,z,rfl⟩
theorem yA {o:List D} (w:WfRow T cO o) (hne:(aL o).toList ≠ []) (hz:(aL o).size≤1048576):poX (aL o)=(o,true):=by
 have hg:=oQ (a:=o) rfl hne
 obtain ⟨a0,a1,a2,sn,e0,e1,c0,c1,c2,nm,cd,cn,fr,tt,ce,ve,rd,rfl⟩:=yD w
 have hok:okOp (opOf a0 a1 a2 sn e0 e1 c0 c1 c2 nm cd cn fr tt ce ve rd)=true:=by
  have h:=hg
  unfold bo at h
  rw [jcx,jcx] at h
  exact h.2.2
 have hsn:gv sn=true:=by
  unfold okOp at hok
  rw [jcx,jcx,jcx] at hok
  exact hok.2.2.1
 obtain ⟨x,y,z,rfl⟩:=seen3 (w.2 3 _ _ rfl rfl) hsn
 have hrd:∀ r ∈ rd,RdF pvX r:=by
  intro r hr
  have hgr:bK r=true:=by
   have h:=hg
   unfold bo at h
   rw [jcx] at h
   exact jcH.1 h.1 r hr
  obtain ⟨k,hk⟩:=jdq hr
  have wr:WfRow T cRd r:=by
   have h:=w.2 16 _ _ rfl rfl
   cases h with
   | nil=>cases hr
   | sl _ ty _ h1 h2 h3 h4 =>
     obtain rfl:=jcn ((show T 59=some _ from rfl).symm.trans h1)
     exact ⟨h3 k r hk,fun j ct d hc hd=>h4 k j ct d r hk hc hd⟩
  obtain ⟨a,b,c,t,k,n,s,q,l4,l5,l6,rfl⟩:=yu wr
  unfold bK at hgr
  rw [jcx,jdM] at hgr
  have hk:k=1∨k=6:=hgr.1.imp eq_of_beq eq_of_beq
  have hv:okVal (val7 k n s q l4 l5 l6)=true:=hgr.2
  refine ⟨a,b,c,t,bD (val7 k n s q l4 l5 l6),?_⟩
  rcases okVal_form hk hv with ⟨e,hn⟩|⟨e,hn⟩
  · rw [e,pJ (.num n) (okV_vNum hn) (.inl rfl)]
  · rw [e,pJ (.err n) (okV_vErr hn) (.inr rfl)]
 have gf:=j8 (wQ 1048577) hrd hg
 have hw:=lm hg rfl
 rw [jp] at hw
 have ho:=pM gf (jP hz hw) hw
 show poS pvX _=_
 unfold poS
 show poOf (opS _ (rdsS (pvS 1048577) _ _ _ _ _)) _ _=_
 rw [ho]
 exact yz rfl (by simpa using hne)
theorem dX (s:ByteArray) (i:Nat):byt s i=(s.data.toList.getD i 0).toNat:=by
 unfold byt
 rw [jdo,jcp,jdn]
theorem oZ {x y:ByteArray} {i:Nat} (h:i < x.size):byt (x++y) i=byt x i:=by
 have h' : i < x.data.toList.length:=by rw [jcB];exact h
 rw [dX,dX]
 have e:(x++y).data.toList=x.data.toList++y.data.toList:=by simp
 rw [e,jcp,jdt h', ← jcp]
theorem vO {x y:ByteArray} (i:Nat):byt (x++y) (x.size+i)=byt y i:=by
 have h' : x.data.toList.length=x.size:=by rw [jcB];rfl
 rw [dX,dX]
 have e:(x++y).data.toList=x.data.toList++y.data.toList:=by simp
 rw [e,jcp,jdv (by omega),h',Nat.add_sub_cancel_left, ← jcp]
theorem oY {x:ByteArray} {i:Nat} (h:i < x.size):∃ b ∈ x.data.toList,byt x i=b.toNat:=by
 have h' : i < x.data.toList.length:=by rw [jcB];exact h
 refine ⟨x.data.toList[i],jdK _,?_⟩
 rw [dX,jcp,jcj h']
 rfl
theorem tR {x y z:ByteArray} {b:Nat} (hb:b=x.size+y.size):(x++y++z).extract x.size b=y:=by
 subst hb
 apply jdG
 apply jdD
 have hx:x.data.toList.length=x.size:=by rw [jcB];rfl
 have hy:y.data.toList.length=y.size:=by rw [jcB];rfl
 have e:(x++y++z).data.toList=x.data.toList++(y.data.toList++z.data.toList):=by simp
 rw [Lib.extract_eq,e,List.drop_append_of_le_length (by omega),List.drop_of_length_le (by omega),jct,show x.size+y.size - x.size=y.data.toList.length by omega,List.take_left']
 rfl
theorem oO (b:UInt8):∀ x ∈ Lib.Hx.encode [b],x ≠ 10:=by
 have:∀ n:Fin 256, ∀ x ∈ Lib.Hx.encode [UInt8.ofNat n.val],x ≠ 10:=by decide +kernel
 have:=this ⟨b.toNat,b.toNat_lt⟩
 rwa [show UInt8.ofNat (⟨b.toNat,b.toNat_lt⟩:Fin 256).val=b by simp] at this
theorem zj (s:ByteArray):∀ x ∈ (encB s).data.toList,x ≠ 10:=by
 unfold encB
 split
 · intro x hx
   have:x=45:=by simpa using hx
   subst this;decide
 · have:∀ l:List UInt8, ∀ x ∈ Lib.Hx.encode l,x ≠ 10:=by
    intro l
    induction l with
    | nil=>intro x hx;cases hx
    | cons b l ih =>
      intro x hx
      have e:Lib.Hx.encode (b :: l)=Lib.Hx.encode [b]++Lib.Hx.encode l:=by simp [Lib.Hx.encode]
      rw [e] at hx
      rcases jcU.1 hx with hx|hx
      · exact oO b x hx
      · exact ih x hx
   intro x hx
   exact this _ x (by simpa using hx)
theorem tu (n:Int):∀ b ∈ Lib.itoa n,b ≠ 10:=by
 intro b hb e
 subst e
 unfold Lib.itoa at hb
 split at hb
 · rcases jcs.1 hb with hb|hb
   · exact absurd hb (by decide)
   · exact absurd (ci _ _ hb) (by decide)
 · exact absurd (ci _ _ hb) (by decide)
theorem yT:∀ (xs:List (List UInt8)),(∀ x ∈ xs, ∀ b ∈ x,b ≠ 10)→∀ b ∈ Lib.join xs [32],b ≠ 10:=by
 have tail:∀ (xs:List (List UInt8)),(∀ x ∈ xs, ∀ b ∈ x,b ≠ 10)→∀ b ∈ Lib.joinTail [32] xs,b ≠ 10:=by
  intro xs
  induction xs with
  | nil=>intro _ b hb;simp [Lib.joinTail] at hb
  | cons x xs ih =>
    intro h b hb
    have e:Lib.joinTail [32] (x :: xs)=[32]++x++Lib.joinTail [32] xs:=by simp [Lib.joinTail]
    rw [e] at hb
    rcases jcU.1 hb with hb|hb
    · rcases jcU.1 hb with hb|hb
      · rw [jdb.1 hb];decide
      · exact h x (jcP ..) b hb
    · exact ih (fun y hy=>h y (jc3 _ hy)) b hb
 intro xs h b hb
 cases xs with
 | nil=>simp [Lib.join] at hb
 | cons x xs =>
   rw [Lib.join_cons] at hb
   rcases jcU.1 hb with hb|hb
   · exact h x (jcP ..) b hb
   · exact tail xs (fun y hy=>h y (jc3 _ hy)) b hb
theorem sY (a:List D):∀ b ∈ (aL a).data.toList,b ≠ 10:=by
 unfold aL
 split
 · intro b hb
   refine yT ((strsOf (kQ a)).map fun t:ByteArray=>t.data.toList) (fun x hx=>?_) b (by simpa [bg] using hb)
   obtain ⟨t,ht,rfl⟩:=jc2.1 hx
   obtain ⟨r,hr,rfl⟩:=jc2.1 ht
   rcases eV a r hr with ⟨n,rfl⟩|⟨t,rfl⟩
   · show ∀ b ∈ (aC n).data.toList,b ≠ 10
     rw [bh];exact tu n
   · exact zj t
 · intro b hb
   simp at hb
theorem jbO {s:ByteArray} {k p:Nat} (hk:k≤p) (hp:p < s.size) (h10:byt s p=10) (hn:∀ j,k≤j→j < p→byt s j ≠ 10):eolK s k=p:=by
 obtain ⟨a,b,c,d⟩:=dL (s:=s) s.size k (by omega) (by omega)
 have a' : k≤eolK s k:=a
 have b' : eolK s k≤s.size:=b
 rcases jdW (eolK s k) p with h|h|h
 · exact absurd (d (show eolK s k < s.size by omega)) (hn _ a' h)
 · exact h
 · exact absurd h10 (c p hk h)
theorem sp_is {s:ByteArray} {k q p:Nat} (he:eolK s k=p) (hk:k≤q) (hq:q < p) (h32:byt s q=32) (hn:∀ j,q < j→j < p→byt s j ≠ 32):spK s k=q+1:=by
 obtain ⟨a,b,c,d⟩:=lF (s:=s) (k:=k) p (by omega)
 unfold spK
 rw [he]
 rcases jdW (spN s k p) (q+1) with h|h|h
 · exact absurd h32 (c q (by omega) hq)
 · exact h
 · exact absurd (d (by omega)) (hn _ (by omega) (by omega))
theorem jaR {po:ByteArray→List D × Bool} {o:List D} {x y:ByteArray} (hpo:po (aL o)=(o,true)) (hne:(aL o).toList ≠ []):recS po (x++recT (aL o)++y) (x.size:Int)=(o,((recT (aL o)).size:Int)):=by
 have hne' : (aL o).data.toList ≠ []:=by rwa [ByteArray.toList_eq] at hne
 have hR:=jc hne'
 generalize hT:aL o=t at *
 have hz:(recT t).size=t.size+1+(aC (sumI t)).size+1:=by
  rw [hR,jcF,jcF,jcF];rfl
 have hs:(x++recT t++y).size=x.size+(recT t).size+y.size:=by rw [jcF,jcF]
 have bR:∀ i,i < (recT t).size→byt (x++recT t++y) (x.size+i)=byt (recT t) i:=fun i hi=>by
  rw [oZ (by rw [jcF];omega),vO]
 have b1:∀ i,i < t.size→byt (recT t) i=byt t i:=fun i hi=>by
  rw [hR,oZ (by rw [jcF,jcF];omega),oZ (by rw [jcF];omega),oZ hi]
 have b2:byt (recT t) t.size=32:=by
  rw [hR,oZ (by rw [jcF,jcF];show t.size < t.size+1+_;omega),oZ (by rw [jcF];show t.size < t.size+1;omega)]
  exact vO (x:=t) 0
 have b3:∀ i,i < (aC (sumI t)).size→byt (recT t) (t.size+1+i)=byt (aC (sumI t)) i:=fun i hi=>by
  rw [hR,oZ (by rw [jcF,jcF];show t.size+1+i < t.size+1+_;omega)]
  have:=vO (x:=t++⟨#[32]⟩) (y:=aC (sumI t)) i
  rwa [show (t++⟨#[32]⟩).size=t.size+1 by rw [jcF];rfl] at this
 have b4:byt (recT t) ((recT t).size - 1)=10:=by
  rw [hz]
  rw [hR]
  have:=vO (x:=t++⟨#[32]⟩++aC (sumI t)) (y:=⟨#[10]⟩) 0
  rw [show (t++⟨#[32]⟩++aC (sumI t)).size+0=t.size+1+(aC (sumI t)).size+1 - 1 by rw [jcF,jcF];show t.size+1+_+0=_;omega] at this
  exact this
 have he:eolK (x++recT t++y) x.size=x.size+((recT t).size - 1):=by
  refine jbO (by omega) (by omega) (by rw [bR _ (by omega)];exact b4) fun j h1 h2=>?_
  obtain ⟨i,rfl⟩:=Nat.exists_eq_add_of_le h1
  rw [bR i (by omega)]
  rcases jdW i t.size with h|h|h
  · rw [b1 i h]
    obtain ⟨b,hb,e⟩:=oY h
    rw [e]
    intro h10
    exact sY o b (by rw [hT];exact hb) (UInt8.toNat_inj.1 h10)
  · rw [h,b2];decide
  · obtain ⟨j,rfl⟩:=Nat.exists_eq_add_of_lt h
    rw [show t.size+j+1=t.size+1+j by omega,b3 j (by omega)]
    obtain ⟨b,hb,e⟩:=oY (x:=aC (sumI t)) (i:=j) (by omega)
    rw [e]
    intro h10
    rw [bh] at hb
    exact tu _ b hb (UInt8.toNat_inj.1 h10)
 have hp:spK (x++recT t++y) x.size=x.size+t.size+1:=by
  refine sp_is he (by omega) (by omega) (by rw [bR _ (by omega)];exact b2) fun j h1 h2=>?_
  obtain ⟨i,rfl⟩:=Nat.exists_eq_add_of_lt h1
  rw [show x.size+t.size+i+1=x.size+(t.size+1+i) by omega,bR _ (by omega),b3 i (by omega)]
  obtain ⟨b,hb,e⟩:=oY (x:=aC (sumI t)) (i:=i) (by omega)
  rw [e]
  intro h32
  exact iH _ b hb (UInt8.toNat_inj.1 h32)
 rw [yq (n:=x.size) (by omega) he hp]
 unfold recN
 rw [if_neg (by omega)]
 have e1:(x++recT t++y).extract x.size (x.size+t.size+1 - 1)=t:=by
  have:x++recT t++y=x++t++(⟨#[32]⟩++aC (sumI t)++⟨#[10]⟩++y):=by
   rw [hR];apply jdG;apply jdD;simp
  rw [this,tR (by omega)]
 have e2:(x++recT t++y).extract x.size (x.size+((recT t).size - 1)+1)=recT t:=tR (by omega)
 rw [e1,e2,hpo,if_pos ⟨rfl,by rw [hT]⟩]
 show (o,((x.size+((recT t).size - 1)+1 - x.size:Nat):Int))=_
 rw [show x.size+((recT t).size - 1)+1 - x.size=(recT t).size by omega]
theorem vh {po:ByteArray→List D × Bool} {s:ByteArray} {k:Nat} (h:∀ j,k≤j→j < s.size→byt s j ≠ 10):recS po s (k:Int)=(bS,0):=by
 unfold recS
 split
 · rename_i hk
   rw [jcG]
   obtain ⟨a,b,c,d⟩:=dL (s:=s) s.size k (by omega) (by omega)
   unfold recN
   rw [if_pos]
   left
   have b' : eolK s k≤s.size:=b
   have a' : k≤eolK s k:=a
   by_cases he:eolK s k < s.size
   · exact absurd (d he) (h _ a' he)
   · omega
 · rfl
theorem vf {po:ByteArray→List D × Bool} {s:ByteArray} {k:Int} (h:(recS po s k).2 ≠ 0):0≤k∧k+(recS po s k).2≤s.size∧recT (aL (recS po s k).1)=s.extract k.toNat (k+(recS po s k).2).toNat:=by
 unfold recS at h ⊢
 split at h
 · rename_i hk
   rw [if_pos hk]
   obtain ⟨n,rfl⟩:=jdl hk.1
   rw [jcG] at h ⊢
   obtain ⟨a,b,c,dd⟩:=dL (s:=s) s.size n (by omega) (by omega)
   have a' : n≤eolK s n:=a
   have b' : eolK s n≤s.size:=b
   unfold recN at h ⊢
   split at h
   · exact absurd rfl h
   · rename_i hno
     rw [if_neg hno]
     split at h
     · rename_i hy
       rw [if_pos hy]
       refine ⟨jcy _,?_,?_⟩
       · show (n:Int)+((eolK s n+1 - n:Nat):Int)≤_
         omega
       · show recT _=s.extract n ((n:Int)+((eolK s n+1 - n:Nat):Int)).toNat
         rw [show ((n:Int)+((eolK s n+1 - n:Nat):Int)).toNat=eolK s n+1 by omega]
         exact hy.2
     · exact absurd rfl h
 · exact absurd rfl h
section
variable {rc:ByteArray→Int→List D × Int}
end
end Go.Proofs.YtcllpknipmcolaaGreatDoor.Ab
namespace Go.Proofs.YtcllpknipmcolaaGreatDoor.Ab
open Go.RowKit
set_option linter.all false
theorem vn {a:List D} {M:Nat} (hM:31≤M) (hr:(rds a).length≤1048576) (h4:∀ j,j=9∨j=10∨j=12∨j=13→2 * (a.getD j default).str.size+1≤M) (hrd:∀ i,i < (rds a).length→2 * (((rds a).getD i []).getD 3 default).str.size+1≤M) (hg:bo a=true):(bg (strsOf (aK a (rds a).length)) ⟨#[32]⟩).size≤((a.getD 3 default).rows.length+16+5 * (rds a).length) * (M+1):=by
 have hl:(strsOf (aK a (rds a).length)).length=(a.getD 3 default).rows.length+16+5 * (rds a).length:=by rw [strsOf,jcw,bu (jcA _)]
 simp only [bo,jcx] at hg
 have hw:∀ r ∈ aK a (rds a).length,v7 M r:=by
  have nums:∀ r ∈ aD a (rds a).length,(aC (intOf r)).size≤M:=fun r hr=>jcr (de (jcH.1 hg.2.1 r hr)) (by omega)
  have enc:∀ s:ByteArray,2 * s.size+1≤M→(encB s).size≤M:=fun s h=>by have:=nC s;omega
  have n14:(aC (a.getD 14 default).int).size≤M:=nums (numI (a.getD 14 default).int) (by simp [aD,ints])
  have n15:(aC (a.getD 15 default).int).size≤M:=nums (numI (a.getD 15 default).int) (by simp [aD,ints])
  have nl:(aC ((rds a).length:Int)).size≤M:=jcr (de (by simp only [inR,jcx,decide_eq_true_eq];omega)) (by omega)
  intro r hr
  unfold aK dl dm at hr
  rcases jcU.1 hr with hr|hr
  · rcases jcU.1 hr with hr|hr
    · rcases jcU.1 hr with hr|hr
      · obtain ⟨x,hx,rfl⟩:=jc2.1 hr
        exact nums x (by unfold aD;exact jd1 _ (jd1 _ hx))
      · simp only [jcs,jco,or_false] at hr
        rcases hr with rfl|rfl|rfl|rfl
        · exact enc _ (h4 9 (.inl rfl))
        · exact enc _ (h4 10 (.inr (.inl rfl)))
        · exact enc _ (h4 12 (.inr (.inr (.inl rfl))))
        · exact enc _ (h4 13 (.inr (.inr (.inr rfl))))
    · simp only [jcs,jco,or_false] at hr
      rcases hr with rfl|rfl|rfl
      · exact n14
      · exact n15
      · exact nl
  · rw [jdd] at hr
    obtain ⟨x,hx,hr⟩:=jdU.1 hr
    have hgx:=jcH.1 hg.1 x hx
    obtain ⟨i,hi,he⟩:=jd0.1 hx
    have hb:=hrd i hi
    rw [show (rds a).getD i []=x by rw [jcp,jcj hi,he];rfl] at hb
    have hin:∀ j,j=0∨j=1∨j=2→(aC (x.getD j default).int).size≤M:=fun j hj=>nums (numI (x.getD j default).int) (by
     unfold aD
     refine List.mem_append_right _ ?_
     rw [jdd]
     refine jdU.2 ⟨x,hx,?_⟩
     rcases hj with rfl|rfl|rfl <;> simp [ej,ints])
    simp only [bj,jcs,jco,or_false] at hr
    rcases hr with rfl|rfl|rfl|rfl|rfl
    · exact hin 0 (.inl rfl)
    · exact hin 1 (.inr (.inl rfl))
    · exact hin 2 (.inr (.inr rfl))
    · exact enc _ hb
    · exact enc _ (by have:=dT (cS hgx) (b8 hgx);omega)
 have:=dc (xs:=strsOf (aK a (rds a).length)) (sep:=⟨#[32]⟩) (M:=M) (fun x hx=>by
  obtain ⟨r,hr,rfl⟩:=jc2.1 hx
  exact hw r hr)
 rw [hl] at this
 exact this
theorem RdD.wf {r:List D} (h:RdD r):WfRow T cRd r:=by
 obtain ⟨k,n,t,s,v,rfl,h1,h2,h3,h4,h5⟩:=h
 refine ⟨rfl,fun j ct d hc hd=>?_⟩
 match j with
 | 0=>cases hc;cases hd;exact .int _ _ h1
 | 1=>cases hc;cases hd;exact .int _ _ h2
 | 2=>cases hc;cases hd;exact .int _ _ h3
 | 3=>cases hc;cases hd;exact .str _ (jcr h4 (by decide))
 | 4=>cases hc;cases hd;exact .int _ _ kk1
 | 5=>cases hc;cases hd;exact .int _ _ h5
 | 6=>cases hc;cases hd;exact .int _ _ kk0
 | 7=>cases hc;cases hd;exact .str _ (jcl _)
 | 8=>cases hc;cases hd;exact .nil _
 | 9=>cases hc;cases hd;exact .nil _
 | 10=>cases hc;cases hd;exact .nil _
 | j+11=>simp at hc
theorem OpD.wf {r:List D} (h:OpD r):WfRow T cO r:=by
 obtain ⟨x,rfl,h0,h1,h2,h3,⟨e0,e1,e2,c1,c2,c3,c4,c5⟩,h5,h6,h7,h8,h9⟩:=h
 refine ⟨rfl,fun j ct d hc hd=>?_⟩
 match j with
 | 0=>cases hc;cases hd;exact .int _ _ h0
 | 1=>cases hc;cases hd;exact .int _ _ h1
 | 2=>cases hc;cases hd;exact .int _ _ h2
 | 3 =>
   cases hc;cases hd
   refine WfD.ofRows (e:=3) (te:=_) rfl (jcr h3.1 (by decide)) fun r hr=>?_
   obtain ⟨n,rfl,hn⟩:=h3.2 r hr
   exact zM hn
 | 4=>cases hc;cases hd;exact .int _ _ e0
 | 5=>cases hc;cases hd;exact .int _ _ e1
 | 6=>cases hc;cases hd;exact .int _ _ e2
 | 7=>cases hc;cases hd;exact .int _ _ c1
 | 8=>cases hc;cases hd;exact .int _ _ c2
 | 9=>cases hc;cases hd;exact .str _ (jcr c3 (by decide))
 | 10=>cases hc;cases hd;exact .str _ (jcr c4 (by decide))
 | 11=>cases hc;cases hd;exact .int _ _ c5
 | 12=>cases hc;cases hd;exact .str _ (jcr h5 (by decide))
 | 13=>cases hc;cases hd;exact .str _ (jcr h6 (by decide))
 | 14=>cases hc;cases hd;exact .int _ _ h7
 | 15=>cases hc;cases hd;exact .int _ _ h8
 | 16 =>
   cases hc;cases hd
   refine WfD.ofRows (e:=59) (te:=_) rfl (jcr h9.1 (by decide)) fun r hr=>?_
   exact (h9.2 r hr).wf
 | j+17=>simp at hc
theorem RdD.txt {r:List D} (h:RdD r):(r.getD 3 default).str.size≤8∧(r.getD 9 default).rows.length+(r.getD 10 default).rows.length=0:=by
 obtain ⟨k,n,t,s,v,rfl,h1,h2,h3,h4,h5⟩:=h
 exact ⟨h4,rfl⟩
theorem OpD.sm {r:List D} (h:OpD r):SmO r:=by
 obtain ⟨x,rfl,h0,h1,h2,h3,⟨e0,e1,e2,c1,c2,c3,c4,c5⟩,h5,h6,h7,h8,h9⟩:=h
 refine ⟨jcr h3.1 (by decide),jcr h9.1 (by decide),⟨jcr c3 (by decide),jcr c4 (by decide),jcr h5 (by decide),jcr h6 (by decide)⟩,fun i hi=>?_⟩
 have:=(d8 h9.2 hi).txt
 exact ⟨jcr this.1 (by decide),by show ((x.rd.getD i []).getD 9 default).rows.length+((x.rd.getD i []).getD 10 default).rows.length≤_;omega⟩
theorem OpD.text {r:List D} (h:OpD r):(aL r).size≤90000:=by
 unfold aL
 split
 · rename_i hg
   obtain ⟨x,rfl,h0,h1,h2,h3,⟨e0,e1,e2,c1,c2,c3,c4,c5⟩,h5,h6,h7,h8,h9⟩:=h
   refine jcr (vn (M:=1401) (by decide) (jcr h9.1 (by decide)) (fun j hj=>?_) (fun i hi=>?_) hg) ?_
   · rcases hj with rfl|rfl|rfl|rfl
     · show 2 * x.e.c.nm.size+1≤_;omega
     · show 2 * x.e.c.cd.size+1≤_;omega
     · show 2 * x.fr.size+1≤_;omega
     · show 2 * x.tt.size+1≤_;omega
   · have:=(d8 h9.2 hi).txt.1
     show 2 * ((x.rd.getD i []).getD 3 default).str.size+1≤_
     omega
   · show (x.sn.length+16+5 * x.rd.length) * (1401+1)≤90000
     have a1:=h3.1
     have a2:=h9.1
     omega
 · exact jcl _
theorem OpD.rec {r:List D} (h:OpD r):(recT (aL r)).size≤90012:=jcr yo (by have:=h.text;omega)
theorem wN {r:List D} (h:OpD r):(recT (aL (csD (rowC cO r)))).size≤90012:=by rw [aw h.wf];exact h.rec
theorem pi {r:List D} (h:OpD r):(aL (csD (rowC cO r))).size≤90000:=by rw [aw h.wf];exact h.text
theorem blp {s:ByteArray} (h:decide ((s.size:Int) > 0)=true) (h9:s.size≤900120):1≤(s.size:Int)∧(s.size:Int)≤1048577:=by
 have:=jck h
 omega
theorem ex9 {s:ByteArray} {a b:Nat} (h:s.size≤900120):(s.extract a b).size≤900120:=by rw [jcJ];omega
theorem blw {x:Int} {n:Nat} (h:0≤x∧x < (n:Int)) (hn:n≤900120):0≤IntKind.i64.wrap (x+1)∧IntKind.i64.wrap (x+1)≤(n:Int):=by
 rw [aB (by omega) (by omega)];omega
theorem dz1 {s p:ByteArray} {a b:Nat} (h:s.size≤900120) (hp:p.size≤20):(s.extract a b).size+p.size≤maxLen:=by
 rw [jcJ];simp only [maxLen];omega
theorem dz2 {s p:ByteArray} {a b c d:Nat} (h:s.size≤900120) (hp:p.size≤20):(s.extract a b++p).size+(s.extract c d).size≤maxLen:=by
 rw [jcF,jcJ,jcJ];simp only [maxLen];omega
theorem dz3 {s p:ByteArray} {x:Int} (h:0≤x∧x < (s.size:Int)) (hs:s.size≤900120) (hp:p.size≤20):(s.extract (Int.toNat 0) x.toNat++p++s.extract (IntKind.i64.wrap (x+1)).toNat ((s.size:Int)).toNat).size≤900200:=by
 rw [aB (by omega) (by omega),jcF,jcF,jcJ,jcJ]
 have:Int.toNat 0=0:=rfl
 omega
theorem bl2 {s:ByteArray} (h:s.size≤900200):1≤IntKind.i64.wrap ((s.size:Int)+2)∧IntKind.i64.wrap ((s.size:Int)+2)≤1048577:=by rw [aB (by omega) (by omega)];omega
end Go.Proofs.YtcllpknipmcolaaGreatDoor.Ab
namespace Go.Proofs.YtcllpknipmcolaaGreatDoor
open Go.ChangeShapes Go.WideShapes Go.ChangeAt Go.RowKit
set_option linter.all false
def o9 (w:World) (B:Nat) (A:Option Addr) (n:Nat) (l:List UInt8):Prop :=
 l.length=n∧(0 < n→∃ ad:Addr,A=some ad∧ad.spot=none∧ad.block < B∧∀ k (h:k < l.length),w.cell? (ad.add k)=some (.int .u8 (l[k].toNat:Int)))
theorem uw (a:Int):0≤bits .and .i64 a 1073741823∧bits .and .i64 a 1073741823≤1073741823:=by
 have h:(BitVec.ofInt 64 a &&& BitVec.ofInt 64 1073741823).toNat≤1073741823:=by
  rw [BitVec.toNat_and]
  exact jcr Nat.and_le_right (by decide)
 show 0≤IntKind.i64.wrap ((BitVec.ofInt 64 a &&& BitVec.ofInt 64 1073741823).toNat:Int)∧IntKind.i64.wrap ((BitVec.ofInt 64 a &&& BitVec.ofInt 64 1073741823).toNat:Int)≤1073741823
 rw [aB (by omega) (by omega)]
 omega
def zg (x:Int) (b:UInt8):Int:=bits .and .i64 (x * 131+(b.toNat:Int)+7) 1073741823
def hTo (l:List UInt8) (k:Nat):Int:=(l.take k).foldl zg (26583+(l.length:Int))
theorem pX {l:List UInt8} {k:Nat} (h:k < l.length):hTo l (k+1)=zg (hTo l k) l[k]:=by
 unfold hTo
 rw [jdj,jcj h,List.foldl_append]
 rfl
theorem xg (l:List UInt8) (hl:l.length≤1048576):∀ k,k≤l.length→0≤hTo l k∧hTo l k≤1100000000
 | 0,_=>by
   show 0≤(26583+(l.length:Int))∧(26583+(l.length:Int))≤1100000000
   omega
 | k+1,hk=>by
   rw [pX (by omega)]
   have:=uw (hTo l k * 131+(l[k].toNat:Int)+7)
   unfold zg
   omega
def hOf (l:List UInt8):Int:=hTo l 4000
theorem zf {l:List UInt8} {k:Nat} (h4:k≤4000) (hk:k≤l.length) (h:k=l.length∨¬ (k:Int) < 4000):hTo l k=hOf l:=by
 unfold hOf
 rcases h with h|h
 · unfold hTo
   rw [jcX (show l.length≤k by omega),jcX (show l.length≤4000 by omega)]
 · rw [show k=4000 by omega]
set_option maxRecDepth 100000 in
theorem s7 (A:Option Addr) (n c:Nat) (l:List UInt8) (w:World) (hn:n≤1048576) (hb:o9 w w.heap.size A n l) :
 Calls Tryz.prog 16 #[.slice A n c] w fun e w' => e=.returned (.pointer (some ⟨w.heap.size,0,none⟩))∧w' = w.alloc (.cells #[.slice A n c,.int .i64 0,.int .i64 (hOf l)] 90):=by
 obtain ⟨hl,hc⟩:=hb
 have HIN:=Lib.hid (xg l (by omega))
 have HEND:=Lib.hid (fun k a b d=>@zf l k a b d)
 have HNX:=Lib.hid (fun k h=>@pX l k h)
 have HL:=Lib.hid hl
 have HC:=Lib.hid hc
 have h00:hTo l 0=26583+(n:Int):=by rw [← hl];rfl
 have H00:=Lib.hid h00
 clear hl hc h00
 go_enter Tryz.func16,Tryz.ntmps16
 go_wp2_with fail
 go_loop [3,4] (fun h i=>∃ (k:Nat) (x:Int),k≤n∧k≤4000∧i=.int .i64 k∧h=.int .i64 x∧x=hTo l k∧0≤x∧x≤1100000000) (fun _ i=>n - (intOf i).toNat)
 case atStart=>exact ⟨0,_,jcl _,jcl _,rfl,rfl,by rw [H00.out],by omega,by omega⟩
 case round =>
  obtain ⟨k,x,hk,hk4,rfl,rfl,hx,hx0,hx1⟩:=hrel
  have HX:=Lib.hid hx
  clear hx
  by_cases hlt:k < n
  · by_cases h4:(k:Int) < 4000
    · obtain ⟨ad,rfl,hs,hbk,hcell⟩:=HC.out (by omega)
      obtain ⟨b,off,spot⟩:=ad
      have hs' : spot=none:=hs
      subst hs'
      have hkl:k < l.length:=by rw [HL.out];exact hlt
      have hcx:=hcell k hkl
      have HK:=Lib.hid hkl
      have hnx:hTo l (k+1)=bits .and .i64 (x * 131+((l[k]'hkl).toNat:Int)+7) 1073741823:=by rw [HNX.out k hkl, ← HX.out];rfl
      have HNX2:=Lib.hid hnx
      have ha:(⟨b,off,none⟩:Addr).add k=⟨b,off+k,none⟩:=by unfold Addr.add;split <;> simp_all
      rw [ha] at hcx
      have hv:=(l[k]'hkl).toNat_lt
      clear hnx
      generalize (l[k]'hkl).toNat=v at *
      have hm:=uw (x * 131+(v:Int)+7)
      clear hcell ha hs HC hkl
      have HM:=Lib.hid hm
      clear hm
      go_wp2
      all_goals go_round
      all_goals
       first
       | (case rel=>exact ⟨k+1,_,by omega,by omega,by go_num,rfl,by rw [HNX2.out],by have:=HM.out;omega,by have:=HM.out;omega⟩)
       | skip
      all_goals simp [intOf];omega
    · have he:=HX.out.trans (HEND.out k hk4 (by have:=HL.out;omega) (.inr (by omega)))
      have HE:=Lib.hid he
      clear he
      go_wp2
      go_ret
      exact ⟨rfl,by rw [HE.out]⟩
  · have he:=HX.out.trans (HEND.out k hk4 (by have:=HL.out;omega) (.inl (by have:=HL.out;omega)))
    have HE:=Lib.hid he
    clear he
    go_wp2
    go_ret
    exact ⟨rfl,by rw [HE.out]⟩
end Go.Proofs.YtcllpknipmcolaaGreatDoor
namespace Go.Proofs.YtcllpknipmcolaaGreatDoor.Ab
noncomputable section
open Go.RowKit
set_option linter.all false
def cq (rows:List (List D)):List UInt8:=rows.map fun r=>UInt8.ofNat (r.getD 0 default).int.toNat
def mM (e:TypeId):FSpec where
 pre args:=∃ rows:List (List D),rows.length≤1048576∧args=[argS e rows]
 res _:=.none
 bx:=true
 nb:=true
 upd args:=match args with
  | [.val _ [.sl _ _ rows]]=>curC e rows 0 (hOf (cq rows))
  | _=>[]
theorem RdR.int_u {T:Tab} {w:World} {X:Nat→Prop} {k:IntKind} {v:Value} {d:D} (h:RdR T w X (.i k) v d):v=.int k d.int:=by cases h;rfl
theorem ArgsR.one_u {T:Tab} {w:World} {X:Nat→Prop} {vals:List Value} {c:CV} (h:ArgsR T w X vals [.val false [c]]):∃ v,vals=[v]∧ArgC T w X v c:=by
 obtain ⟨h1,h2⟩:=h
 match vals,h1 with
 | [v],_ =>
   obtain ⟨c',e,hc⟩:=h2 0 _ v rfl rfl
   obtain rfl:c=c' := by simpa using e
   exact ⟨v,rfl,hc⟩
theorem yG {P:Program} {T:Tab} {f:FuncId} {e:TypeId} {te:Ty} {et:TypeId} (hte:T e=some te) (hct:te.cts=[.i .u8]) (hcall:∀ args w,(callFunc f args).run P w=.ok (.enter f args) w)
 (h:∀ (A:Option Addr) (n c:Nat) (l:List UInt8) (w:World) (hn:n≤1048576) (hb:o9 w w.heap.size A n l),Calls P f #[.slice A n c] w fun e w' => e=.returned (.pointer (some ⟨w.heap.size,0,none⟩))∧w' = w.alloc (.cells #[.slice A n c,.int .i64 0,.int .i64 (hOf l)] et)):FOk P T f (mM e):=by
 refine ⟨hcall,(fun _ hn=>by cases hn),(fun hb=>by cases hb),fun _ _ w X args vals hX hargs hpre=>?_⟩
 obtain ⟨rows,hr,rfl⟩:=hpre
 obtain ⟨v,rfl,hv⟩:=(show ArgsR T w X vals [.val false [.sl false e rows]] from hargs).one_u
 have hv' : RdR T w X (.l e) v (.l rows):=hv
 have hH:=xg (cq rows) (by unfold cq;rw [jcw];exact hr)
 have key:∃ A n c,v=.slice A n c∧n≤1048576∧o9 w w.heap.size A n (cq rows):=by
  clear hv hH
  generalize hd:D.l rows=d at hv'
  generalize hc:CT.l e=ct at hv'
  cases hv' with
  | nil e' A c g =>
    obtain rfl:rows=[]:=by simpa using hd
    exact ⟨A,0,c,rfl,jcl _,rfl,fun h=>absurd h (Nat.lt_irrefl _)⟩
  | sl e' ty b o c rows' vs g1 g2 g3 g4 g5 g6 g7 g8 =>
    cases hc
    obtain rfl:rows=rows' := by simpa using hd
    rw [hte] at g1
    obtain rfl:=jcn g1
    refine ⟨_,rows.length,c,rfl,hr,by unfold cq;rw [jcw],fun _=>⟨_,rfl,rfl,g5,fun k hk=>?_⟩⟩
    have hk' : k < rows.length:=by unfold cq at hk;rwa [jcw] at hk
    have:=g6 k 0 hk' (by rw [hct];simp)
    rw [hct] at this
    simp only [jcz,jcI,jc1,jd2,jdX] at this
    rw [fg,this]
    have hlen:=g7 k rows[k] (jcj hk')
    rw [hct] at hlen
    obtain ⟨d,hd'⟩:=jd9.1 hlen
    have hr8:=g8 k 0 (.i .u8) d rows[k] (jcj hk') (by rw [hct];rfl) (by rw [hd'];rfl)
    have hin:∃ m,d=.i m∧inK .u8 m:=by
     have hr9:=hr8
     generalize hct0:CT.i .u8=ct0 at hr9
     generalize vs k 0=u0 at hr9
     cases hr9 with
     | int k' m hm=>cases hct0;exact ⟨m,rfl,hm⟩
     | _=>cases hct0
    obtain ⟨m,rfl,hm⟩:=hin
    rw [hr8.int_u]
    have e0:(cq rows)[k]? = some (UInt8.ofNat m.toNat):=by
     unfold cq
     rw [jcL,jcj hk',hd']
     rfl
    have e1:(cq rows)[k]'hk=UInt8.ofNat m.toNat:=(jcu.1 e0).2
    rw [e1]
    have h0:IntKind.min .u8=0:=by decide
    have h255:IntKind.max .u8=255:=by decide
    rw [inK,h0,h255] at hm
    show some (Value.int .u8 m)=some (Value.int .u8 ((UInt8.ofNat m.toNat).toNat:Int))
    rw [UInt8.toNat_ofNat',jdN (by omega)]
    congr 2
    omega
  | _=>cases hc
 obtain ⟨A,n,c,rfl,hn,hb⟩:=key
 refine (h A n c (cq rows) w hn hb).mono fun e' w' ⟨he,hw⟩=>⟨_,et,he,hw,rfl,fun i cc u h1 h2=>?_⟩
 have h1' : (curC e rows 0 (hOf (cq rows)))[i]? = some cc:=h1
 match i with
 | 0 =>
   obtain rfl:CV.sl false e rows=cc:=by simpa using h1'
   obtain rfl:Value.slice A n c=u:=by simpa using h2
   exact hv'
 | 1 =>
   obtain rfl:CV.i .i64 0=cc:=by simpa using h1'
   obtain rfl:Value.int .i64 0=u:=by simpa using h2
   exact ⟨rfl,by decide,by decide⟩
 | 2 =>
   obtain rfl:CV.i .i64 (hOf (cq rows))=cc:=by simpa using h1'
   obtain rfl:Value.int .i64 (hOf (cq rows))=u:=by simpa using h2
   have hh:0≤hOf (cq rows)∧hOf (cq rows)≤1100000000:=by
    unfold hOf
    rcases Nat.le_total 4000 (cq rows).length with hl|hl
    · exact hH 4000 hl
    · have e:hTo (cq rows) 4000=hTo (cq rows) (cq rows).length:=by
       unfold hTo
       rw [jcX hl,jdd]
      rw [e]
      exact hH _ (jcA _)
   have h1:IntKind.i64.min = -9223372036854775808:=by decide
   have h2:IntKind.i64.max=9223372036854775807:=by decide
   refine ⟨rfl,?_⟩
   rw [inK,h1,h2]
   omega
 | k+3=>simp at h1'
theorem ok16:FOk Tryz.prog T 16 (mM 5):=yG rfl rfl Tryz.call16 s7
end
end Go.Proofs.YtcllpknipmcolaaGreatDoor.Ab
