/- A part. -/
import Derived.Test.YtdkofgjbbdbglaaGreatDoorCYy
import Derived.Test.YtdkofgjbbdbglaaGreatDoorCKc
namespace Go.Proofs.YtdkofgjbbdbglaaGreatDoor.Ab
open Go.RowKit
set_option linter.all false
set_option maxRecDepth 100000
noncomputable def pvX:ByteArray→List D × Bool:=pvS 1048577
theorem y8 (t:ByteArray) (ht:t.size≤1048576):WfRow T cV (pvX t).1∧wRow (pvX t).1≤2097152:=by
 have h0:=kS ht 1048577 0 (jdR _) (jdk _)
 have h1:=dl t 1048577 0 (jdR _) (jdk _)
 unfold pvX pvS pvOf
 split
 · refine ⟨h0,?_⟩
   show wRow (parF t 1048577 0).1≤2097152
   unfold Pos at h1
   omega
 · refine ⟨?_,by decide⟩
   have z:inK .i64 0:=k0 0 (by decide) (by decide)
   have h2:=kS ht 0 0 (jdR _) (jdk _)
   exact h2
theorem pvX_s:FOk Tryz.prog T 66 (dA cV pvX):=FOk.pv2 (n:=1048577) (jdm _) (xk66 1048577)
theorem pvX_i:FOk Tryz.prog T 72 (dA cV pvX):=by
 have h:FOk Tryz.prog T 72 (dA cV pvI):=FOk.pv2 (n:=1048577) (jdm _) (xk72 1048577)
 exact FOk.po_same (fun s _=>(yZ (n:=1048577) (by decide) s).symm) h
noncomputable def poX:ByteArray→List D × Bool:=poS pvX
theorem tf:PoOk poX:=jbN y8
theorem poX_s:FOk Tryz.prog T 38 (dA cO poX):=xo38 pvX y8 pvX_s
theorem poX_i:FOk Tryz.prog T 41 (dA cO poX) :=
 FOk.po_same (po' := poI pvX) (fun s hs=>(po_same (xw 1048577) hs).symm) (xo41 pvX y8 pvX_i)
noncomputable def rcX:ByteArray→Int→List D × Int:=recS poX
theorem rcX_ok:RcOk rcX:=yU tf
theorem rcX_s:FOk Tryz.prog T 20 (spPR cO rcX):=xo20 poX tf poX_s
theorem rcX_i:FOk Tryz.prog T 21 (spPR cO rcX) :=
 FOk.rc_same (rc' := recI poX) (fun s k _=>(vD poX s k).symm) (xo21 poX tf poX_i)
theorem wf_i {T:Tab} {k:IntKind} {d:D} (h:WfD T (.i k) d):∃ n,d=.i n:=by cases h;exact ⟨_,rfl⟩
theorem wf_s {T:Tab} {d:D} (h:WfD T .s d):∃ n,d=.s n:=by cases h;exact ⟨_,rfl⟩
theorem wf_l {T:Tab} {e:TypeId} {d:D} (h:WfD T (.l e) d):∃ n,d=.l n:=by cases h <;> exact ⟨_,rfl⟩
theorem zh {o:List D} (w:WfRow T cO o):∃ a0 a1 a2 sn e0 e1 c0 c1 c2 nm cd cn fr tt ce ve rd,o=opOf a0 a1 a2 sn e0 e1 c0 c1 c2 nm cd cn fr tt ce ve rd:=by
 have hl:o.length=17:=w.1
 match o,hl with
 | [x0,x1,x2,x3,x4,x5,x6,x7,x8,x9,x10,x11,x12,x13,x14,x15,x16],_ =>
   obtain ⟨a0,rfl⟩:=wf_i (w.2 0 _ _ rfl rfl)
   obtain ⟨a1,rfl⟩:=wf_i (w.2 1 _ _ rfl rfl)
   obtain ⟨a2,rfl⟩:=wf_i (w.2 2 _ _ rfl rfl)
   obtain ⟨sn,rfl⟩:=wf_l (w.2 3 _ _ rfl rfl)
   obtain ⟨e0,rfl⟩:=wf_i (w.2 4 _ _ rfl rfl)
   obtain ⟨e1,rfl⟩:=wf_i (w.2 5 _ _ rfl rfl)
   obtain ⟨c0,rfl⟩:=wf_i (w.2 6 _ _ rfl rfl)
   obtain ⟨c1,rfl⟩:=wf_i (w.2 7 _ _ rfl rfl)
   obtain ⟨c2,rfl⟩:=wf_i (w.2 8 _ _ rfl rfl)
   obtain ⟨nm,rfl⟩:=wf_s (w.2 9 _ _ rfl rfl)
   obtain ⟨cd,rfl⟩:=wf_s (w.2 10 _ _ rfl rfl)
   obtain ⟨cn,rfl⟩:=wf_i (w.2 11 _ _ rfl rfl)
   obtain ⟨fr,rfl⟩:=wf_s (w.2 12 _ _ rfl rfl)
   obtain ⟨tt,rfl⟩:=wf_s (w.2 13 _ _ rfl rfl)
   obtain ⟨ce,rfl⟩:=wf_i (w.2 14 _ _ rfl rfl)
   obtain ⟨ve,rfl⟩:=wf_i (w.2 15 _ _ rfl rfl)
   obtain ⟨rd,rfl⟩:=wf_l (w.2 16 _ _ rfl rfl)
   exact ⟨a0,a1,a2,sn,e0,e1,c0,c1,c2,nm,cd,cn,fr,tt,ce,ve,rd,rfl⟩
theorem yX {r:List D} (w:WfRow T cRd r):∃ (a b c:Int) (t:ByteArray) (k n s:Int) (x:ByteArray) (l4 l5 l6:List (List D)),r=[.i a,.i b,.i c,.s t]++val7 k n s x l4 l5 l6:=by
 have hl:r.length=11:=w.1
 match r,hl with
 | [x0,x1,x2,x3,x4,x5,x6,x7,x8,x9,x10],_ =>
   obtain ⟨a0,rfl⟩:=wf_i (w.2 0 _ _ rfl rfl)
   obtain ⟨a1,rfl⟩:=wf_i (w.2 1 _ _ rfl rfl)
   obtain ⟨a2,rfl⟩:=wf_i (w.2 2 _ _ rfl rfl)
   obtain ⟨a3,rfl⟩:=wf_s (w.2 3 _ _ rfl rfl)
   obtain ⟨a4,rfl⟩:=wf_i (w.2 4 _ _ rfl rfl)
   obtain ⟨a5,rfl⟩:=wf_i (w.2 5 _ _ rfl rfl)
   obtain ⟨a6,rfl⟩:=wf_i (w.2 6 _ _ rfl rfl)
   obtain ⟨a7,rfl⟩:=wf_s (w.2 7 _ _ rfl rfl)
   obtain ⟨a8,rfl⟩:=wf_l (w.2 8 _ _ rfl rfl)
   obtain ⟨a9,rfl⟩:=wf_l (w.2 9 _ _ rfl rfl)
   obtain ⟨a10,rfl⟩:=wf_l (w.2 10 _ _ rfl rfl)
   exact ⟨a0,a1,a2,a3,a4,a5,a6,a7,a8,a9,a10,rfl⟩
theorem okVal_form {k n s:Int} {x:ByteArray} {l4 l5 l6:List (List D)} (hk:k=1∨k=6) (h:okVal (val7 k n s x l4 l5 l6)=true):(val7 k n s x l4 l5 l6=vNum n∧inR n (-1000000000) 1000000000=true)∨(val7 k n s x l4 l5 l6=vErr n∧inR n 1 8=true):=by
 unfold okVal at h
 simp only [jdj] at h
 obtain ⟨⟨⟨⟨⟨h4,h5⟩,h6⟩,hs⟩,hx⟩,hn⟩:=h
 have e4:l4=[]:=jeo (eq_of_beq h4)
 have e5:l5=[]:=jeo (eq_of_beq h5)
 have e6:l6=[]:=jeo (eq_of_beq h6)
 have es:s=0:=eq_of_beq hs
 have ex:x=ES:=by
  have:x.toList=ES.toList:=(eq_of_beq hx).trans nil_toList.symm
  rwa [aW] at this
 subst e4 e5 e6 es ex
 rcases hk with rfl|rfl
 · exact .inl ⟨rfl,hn⟩
 · exact .inr ⟨rfl,hn⟩
theorem okV_vNum {n:Int} (h:inR n (-1000000000) 1000000000=true):okV (vNum n)=true:=by
 rw [okV_eq]
 unfold okStep
 rw [if_pos (show iAt (vNum n) 0=1 from rfl)]
 rw [show inR (iAt (vNum n) 1) (-1000000000) 1000000000=true from h,jdQ]
 show (true && (true && ((false || (ES.toList == [])) && true)))=true
 rw [nil_toList]
 rfl
theorem okV_vErr {n:Int} (h:inR n 1 8=true):okV (vErr n)=true:=by
 rw [okV_eq]
 unfold okStep
 rw [if_neg (by show ¬ (6:Int)=1;decide),if_neg (by show ¬ (6:Int)=2;decide),if_neg (by show ¬ (6:Int)=3;decide),if_neg (by show ¬ (6:Int)=4;decide),if_neg (by show ¬ (6:Int)=5;decide),if_pos (show iAt (vErr n) 0=6 from rfl)]
 rw [show inR (iAt (vErr n) 1) 1 8=true from h,jdQ]
 show (true && (true && ((false || (ES.toList == [])) && true)))=true
 rw [nil_toList]
 rfl
theorem pT {v:List D} (hc:Can v) (ho:okV v=true) (hk:(v.getD 0 default).int=1∨(v.getD 0 default).int=6):pvX (bE v)=(v,true):=by
 have e:fmtV v=bE v:=xO hk
 have h2:=(lA (s:=fmtV v) hc ho rfl (n:=1048577) (by decide)).1
 rw [← e]
 unfold pvX pvS
 rw [h2]
 show pvOf v (((fmtV v).size:Int) == ((fmtV v).size:Int)) _=_
 rw [beq_self_eq_true]
 exact mc ho rfl
theorem seen3 {sn:List (List D)} (h:WfD T (.l 3) (.l sn)) (hs:gA sn=true):∃ x y z:Int,sn=[[.i x],[.i y],[.i z]]:=by
 unfold gA at hs
 rw [jdj,decide_eq_true_eq] at hs
 have hr:∀ k:Nat,k < 3→∃ n:Int,sn[k]? = some [.i n]:=by
  intro k hk
  cases h with
  | nil=>exact absurd hs.2 (by decide)
  | sl _ ty _ h1 h2 h3 h4 =>
    obtain rfl:_=ty:=jc9 ((show T 3=some _ from rfl).symm.trans h1)
    have hlt:k < sn.length:=by omega
    have hrow:sn[k]? = some sn[k]:=jc5 hlt
    have hlen:sn[k].length=1:=h3 k _ hrow
    match hq:sn[k],hlen with
    | [d],_ =>
      obtain ⟨n,rfl⟩:=wf_i (h4 k 0 _ _ _ hrow rfl (by rw [hq];rfl))
      exact ⟨n,by rw [hrow,hq]⟩
 obtain ⟨x,hx⟩:=hr 0 (by decide)
 obtain ⟨y,hy⟩:=hr 1 (by decide)
 obtain ⟨z,hz⟩:=hr 2 (by decide)
 have hl:sn.length=3:=hs.2
 match sn,hl with
 | [a,b,c],_ =>
   cases hx;cases hy;cases hz
   exact ⟨x,y,z,rfl⟩
theorem zd {o:List D} (w:WfRow T cO o) (hne:(aJ o).toList ≠ []) (hz:(aJ o).size≤1048576):poX (aJ o)=(o,true):=by
 have hg:=o6 (a:=o) rfl hne
 obtain ⟨a0,a1,a2,sn,e0,e1,c0,c1,c2,nm,cd,cn,fr,tt,ce,ve,rd,rfl⟩:=zh w
 have hok:okOp (opOf a0 a1 a2 sn e0 e1 c0 c1 c2 nm cd cn fr tt ce ve rd)=true:=by
  have h:=hg
  unfold bn at h
  rw [jdj,jdj] at h
  exact h.2.2
 have hsn:gA sn=true:=by
  unfold okOp at hok
  rw [jdj,jdj,jdj] at hok
  exact hok.2.2.1
 obtain ⟨x,y,z,rfl⟩:=seen3 (w.2 3 _ _ rfl rfl) hsn
 have hrd:∀ r ∈ rd,RdF pvX r:=by
  intro r hr
  have hgr:bK r=true:=by
   have h:=hg
   unfold bn at h
   rw [jdj] at h
   exact jdt.1 h.1 r hr
  obtain ⟨k,hk⟩:=jec hr
  have wr:WfRow T cRd r:=by
   have h:=w.2 16 _ _ rfl rfl
   cases h with
   | nil=>cases hr
   | sl _ ty _ h1 h2 h3 h4 =>
     obtain rfl:=jc9 ((show T 76=some _ from rfl).symm.trans h1)
     exact ⟨h3 k r hk,fun j ct d hc hd=>h4 k j ct d r hk hc hd⟩
  obtain ⟨a,b,c,t,k,n,s,q,l4,l5,l6,rfl⟩:=yX wr
  unfold bK at hgr
  rw [jdj,jey] at hgr
  have hk:k=1∨k=6:=hgr.1.imp eq_of_beq eq_of_beq
  have hv:okVal (val7 k n s q l4 l5 l6)=true:=hgr.2
  refine ⟨a,b,c,t,bE (val7 k n s q l4 l5 l6),?_⟩
  rcases okVal_form hk hv with ⟨e,hn⟩|⟨e,hn⟩
  · rw [e,pT (.num n) (okV_vNum hn) (.inl rfl)]
  · rw [e,pT (.err n) (okV_vErr hn) (.inr rfl)]
 have gf:=kh (xw 1048577) hrd hg
 have hw:=lz hg rfl
 rw [jB] at hw
 have ho:=pV gf (jY hz hw) hw
 show poS pvX _=_
 unfold poS
 show poOf (opS _ (rdsS (pvS 1048577) _ _ _ _ _)) _ _=_
 rw [ho]
 exact zb rfl (by simpa using hne)
theorem gX (s:ByteArray) (i:Nat):byt s i=(s.data.toList.getD i 0).toNat:=by
 unfold byt
 rw [jea,jdb,jd9]
theorem kw {x y:ByteArray} {i:Nat} (h:i < x.size):byt (x++y) i=byt x i:=by
 have h' : i < x.data.toList.length:=by rw [jdn];exact h
 rw [gX,gX]
 have e:(x++y).data.toList=x.data.toList++y.data.toList:=by simp
 rw [e,jdb,jef h', ← jdb]
theorem ww {x y:ByteArray} (i:Nat):byt (x++y) (x.size+i)=byt y i:=by
 have h' : x.data.toList.length=x.size:=by rw [jdn];rfl
 rw [gX,gX]
 have e:(x++y).data.toList=x.data.toList++y.data.toList:=by simp
 rw [e,jdb,jeh (by omega),h',Nat.add_sub_cancel_left, ← jdb]
theorem pg {x:ByteArray} {i:Nat} (h:i < x.size):∃ b ∈ x.data.toList,byt x i=b.toNat:=by
 have h' : i < x.data.toList.length:=by rw [jdn];exact h
 refine ⟨x.data.toList[i],jew _,?_⟩
 rw [gX,jdb,jc5 h']
 rfl
theorem uh {x y:ByteArray} {a b:Nat} (hb:b≤x.size):(x++y).extract a b=x.extract a b:=by
 apply jes
 apply jep
 have h' : x.data.toList.length=x.size:=by rw [jdn];rfl
 have e:(x++y).data.toList=x.data.toList++y.data.toList:=by simp
 rw [Lib.extract_eq,Lib.extract_eq,e]
 by_cases ha:a≤x.size
 · rw [List.drop_append_of_le_length (by omega),List.take_append_of_le_length (by rw [jdL];omega)]
 · rw [show b - a=0 by omega,List.take_zero,List.take_zero]
theorem ug {x y z:ByteArray} {b:Nat} (hb:b=x.size+y.size):(x++y++z).extract x.size b=y:=by
 subst hb
 apply jes
 apply jep
 have hx:x.data.toList.length=x.size:=by rw [jdn];rfl
 have hy:y.data.toList.length=y.size:=by rw [jdn];rfl
 have e:(x++y++z).data.toList=x.data.toList++(y.data.toList++z.data.toList):=by simp
 rw [Lib.extract_eq,e,List.drop_append_of_le_length (by omega),List.drop_of_length_le (by omega),jdf,show x.size+y.size - x.size=y.data.toList.length by omega,List.take_left']
 rfl
theorem o0 (b:UInt8):∀ x ∈ Lib.Hx.encode [b],x ≠ 10:=by
 have:∀ n:Fin 256, ∀ x ∈ Lib.Hx.encode [UInt8.ofNat n.val],x ≠ 10:=by decide +kernel
 have:=this ⟨b.toNat,b.toNat_lt⟩
 rwa [show UInt8.ofNat (⟨b.toNat,b.toNat_lt⟩:Fin 256).val=b by simp] at this
theorem zR (s:ByteArray):∀ x ∈ (encB s).data.toList,x ≠ 10:=by
 unfold encB
 split
 · intro x hx
   have:x=45:=by simpa using hx
   subst this;decide
 · have:∀ l:List UInt8, ∀ x ∈ Lib.Hx.encode l,x ≠ 10:=by
    intro l
    induction l with
    | nil=>intro x hx;cases hx
    | cons b l ih =>
      intro x hx
      have e:Lib.Hx.encode (b :: l)=Lib.Hx.encode [b]++Lib.Hx.encode l:=by simp [Lib.Hx.encode]
      rw [e] at hx
      rcases jdG.1 hx with hx|hx
      · exact o0 b x hx
      · exact ih x hx
   intro x hx
   exact this _ x (by simpa using hx)
theorem tK (n:Int):∀ b ∈ Lib.itoa n,b ≠ 10:=by
 intro b hb e
 subst e
 unfold Lib.itoa at hb
 split at hb
 · rcases jde.1 hb with hb|hb
   · exact absurd hb (by decide)
   · exact absurd (cj _ _ hb) (by decide)
 · exact absurd (cj _ _ hb) (by decide)
theorem zy:∀ (xs:List (List UInt8)),(∀ x ∈ xs, ∀ b ∈ x,b ≠ 10)→∀ b ∈ Lib.join xs [32],b ≠ 10:=by
 have tail:∀ (xs:List (List UInt8)),(∀ x ∈ xs, ∀ b ∈ x,b ≠ 10)→∀ b ∈ Lib.joinTail [32] xs,b ≠ 10:=by
  intro xs
  induction xs with
  | nil=>intro _ b hb;simp [Lib.joinTail] at hb
  | cons x xs ih =>
    intro h b hb
    have e:Lib.joinTail [32] (x :: xs)=[32]++x++Lib.joinTail [32] xs:=by simp [Lib.joinTail]
    rw [e] at hb
    rcases jdG.1 hb with hb|hb
    · rcases jdG.1 hb with hb|hb
      · rw [jdX.1 hb];decide
      · exact h x (jdB ..) b hb
    · exact ih (fun y hy=>h y (jdP _ hy)) b hb
 intro xs h b hb
 cases xs with
 | nil=>simp [Lib.join] at hb
 | cons x xs =>
   rw [Lib.join_cons] at hb
   rcases jdG.1 hb with hb|hb
   · exact h x (jdB ..) b hb
   · exact tail xs (fun y hy=>h y (jdP _ hy)) b hb
theorem tl (a:List D):∀ b ∈ (aJ a).data.toList,b ≠ 10:=by
 unfold aJ
 split
 · intro b hb
   refine zy ((strsOf (k8 a)).map fun t:ByteArray=>t.data.toList) (fun x hx=>?_) b (by simpa [bg] using hb)
   obtain ⟨t,ht,rfl⟩:=jdO.1 hx
   obtain ⟨r,hr,rfl⟩:=jdO.1 ht
   rcases eX a r hr with ⟨n,rfl⟩|⟨t,rfl⟩
   · show ∀ b ∈ (aB n).data.toList,b ≠ 10
     rw [bh];exact tK n
   · exact zR t
 · intro b hb
   simp at hb
theorem xP {s:ByteArray} {k p:Nat} (hk:k≤p) (hp:p < s.size) (h10:byt s p=10) (hn:∀ j,k≤j→j < p→byt s j ≠ 10):eolK s k=p:=by
 obtain ⟨a,b,c,d⟩:=dO (s:=s) s.size k (by omega) (by omega)
 have a' : k≤eolK s k:=a
 have b' : eolK s k≤s.size:=b
 rcases jeI (eolK s k) p with h|h|h
 · exact absurd (d (show eolK s k < s.size by omega)) (hn _ a' h)
 · exact h
 · exact absurd h10 (c p hk h)
theorem ja3 {s:ByteArray} {k q p:Nat} (he:eolK s k=p) (hk:k≤q) (hq:q < p) (h32:byt s q=32) (hn:∀ j,q < j→j < p→byt s j ≠ 32):spK s k=q+1:=by
 obtain ⟨a,b,c,d⟩:=jj (s:=s) (k:=k) p (by omega)
 unfold spK
 rw [he]
 rcases jeI (spN s k p) (q+1) with h|h|h
 · exact absurd h32 (c q (by omega) hq)
 · exact h
 · exact absurd (d (by omega)) (hn _ (by omega) (by omega))
theorem jby {po:ByteArray→List D × Bool} {o:List D} {x y:ByteArray} (hpo:po (aJ o)=(o,true)) (hne:(aJ o).toList ≠ []):recS po (x++recT (aJ o)++y) (x.size:Int)=(o,((recT (aJ o)).size:Int)):=by
 have hne' : (aJ o).data.toList ≠ []:=by rwa [ByteArray.toList_eq] at hne
 have hR:=jo hne'
 generalize hT:aJ o=t at *
 have hz:(recT t).size=t.size+1+(aB (sumI t)).size+1:=by
  rw [hR,jdr,jdr,jdr];rfl
 have hs:(x++recT t++y).size=x.size+(recT t).size+y.size:=by rw [jdr,jdr]
 have bR:∀ i,i < (recT t).size→byt (x++recT t++y) (x.size+i)=byt (recT t) i:=fun i hi=>by
  rw [kw (by rw [jdr];omega),ww]
 have b1:∀ i,i < t.size→byt (recT t) i=byt t i:=fun i hi=>by
  rw [hR,kw (by rw [jdr,jdr];omega),kw (by rw [jdr];omega),kw hi]
 have b2:byt (recT t) t.size=32:=by
  rw [hR,kw (by rw [jdr,jdr];show t.size < t.size+1+_;omega),kw (by rw [jdr];show t.size < t.size+1;omega)]
  exact ww (x:=t) 0
 have b3:∀ i,i < (aB (sumI t)).size→byt (recT t) (t.size+1+i)=byt (aB (sumI t)) i:=fun i hi=>by
  rw [hR,kw (by rw [jdr,jdr];show t.size+1+i < t.size+1+_;omega)]
  have:=ww (x:=t++⟨#[32]⟩) (y:=aB (sumI t)) i
  rwa [show (t++⟨#[32]⟩).size=t.size+1 by rw [jdr];rfl] at this
 have b4:byt (recT t) ((recT t).size - 1)=10:=by
  rw [hz]
  rw [hR]
  have:=ww (x:=t++⟨#[32]⟩++aB (sumI t)) (y:=⟨#[10]⟩) 0
  rw [show (t++⟨#[32]⟩++aB (sumI t)).size+0=t.size+1+(aB (sumI t)).size+1 - 1 by rw [jdr,jdr];show t.size+1+_+0=_;omega] at this
  exact this
 have he:eolK (x++recT t++y) x.size=x.size+((recT t).size - 1):=by
  refine xP (by omega) (by omega) (by rw [bR _ (by omega)];exact b4) fun j h1 h2=>?_
  obtain ⟨i,rfl⟩:=Nat.exists_eq_add_of_le h1
  rw [bR i (by omega)]
  rcases jeI i t.size with h|h|h
  · rw [b1 i h]
    obtain ⟨b,hb,e⟩:=pg h
    rw [e]
    intro h10
    exact tl o b (by rw [hT];exact hb) (UInt8.toNat_inj.1 h10)
  · rw [h,b2];decide
  · obtain ⟨j,rfl⟩:=Nat.exists_eq_add_of_lt h
    rw [show t.size+j+1=t.size+1+j by omega,b3 j (by omega)]
    obtain ⟨b,hb,e⟩:=pg (x:=aB (sumI t)) (i:=j) (by omega)
    rw [e]
    intro h10
    rw [bh] at hb
    exact tK _ b hb (UInt8.toNat_inj.1 h10)
 have hp:spK (x++recT t++y) x.size=x.size+t.size+1:=by
  refine ja3 he (by omega) (by omega) (by rw [bR _ (by omega)];exact b2) fun j h1 h2=>?_
  obtain ⟨i,rfl⟩:=Nat.exists_eq_add_of_lt h1
  rw [show x.size+t.size+i+1=x.size+(t.size+1+i) by omega,bR _ (by omega),b3 i (by omega)]
  obtain ⟨b,hb,e⟩:=pg (x:=aB (sumI t)) (i:=i) (by omega)
  rw [e]
  intro h32
  exact iP _ b hb (UInt8.toNat_inj.1 h32)
 rw [ma (n:=x.size) (by omega) he hp]
 unfold recN
 rw [if_neg (by omega)]
 have e1:(x++recT t++y).extract x.size (x.size+t.size+1 - 1)=t:=by
  have:x++recT t++y=x++t++(⟨#[32]⟩++aB (sumI t)++⟨#[10]⟩++y):=by
   rw [hR];apply jes;apply jep;simp
  rw [this,ug (by omega)]
 have e2:(x++recT t++y).extract x.size (x.size+((recT t).size - 1)+1)=recT t:=ug (by omega)
 rw [e1,e2,hpo,if_pos ⟨rfl,by rw [hT]⟩]
 show (o,((x.size+((recT t).size - 1)+1 - x.size:Nat):Int))=_
 rw [show x.size+((recT t).size - 1)+1 - x.size=(recT t).size by omega]
theorem vE {po:ByteArray→List D × Bool} {s:ByteArray} {k:Nat} (h:∀ j,k≤j→j < s.size→byt s j ≠ 10):recS po s (k:Int)=(bB,0):=by
 unfold recS
 split
 · rename_i hk
   rw [jds]
   obtain ⟨a,b,c,d⟩:=dO (s:=s) s.size k (by omega) (by omega)
   unfold recN
   rw [if_pos]
   left
   have b' : eolK s k≤s.size:=b
   have a' : k≤eolK s k:=a
   by_cases he:eolK s k < s.size
   · exact absurd (d he) (h _ a' he)
   · omega
 · rfl
theorem oD {po:ByteArray→List D × Bool} {d e:ByteArray} {k:Int} (h:(recS po d k).2 ≠ 0):recS po (d++e) k=recS po d k:=by
 unfold recS at h
 split at h
 · rename_i hk
   obtain ⟨n,rfl⟩:=jd7 hk.1
   rw [jds] at h
   have hn:n≤d.size:=by omega
   obtain ⟨a,b,c,dd⟩:=dO (s:=d) d.size n hn (by omega)
   have a' : n≤eolK d n:=a
   have b' : eolK d n≤d.size:=b
   unfold recN at h
   split at h
   · exact absurd rfl h
   · rename_i hno
     have hlt:eolK d n < d.size:=by omega
     have he:eolK (d++e) n=eolK d n:=xP a' (by rw [jdr];omega) (by rw [kw hlt];exact dd hlt) fun j h1 h2=>by rw [kw (by omega)];exact c j h1 h2
     obtain ⟨a2,b2,c2,d2⟩:=jj (s:=d) (k:=n) (eolK d n) a'
     have a2' : n≤spK d n:=a2
     have b2' : spK d n≤eolK d n:=b2
     have hgt:n < spK d n:=by omega
     have hp:spK (d++e) n=spK d n:=by
      have:=ja3 (s:=d++e) (k:=n) (q:=spK d n - 1) he (by omega) (by omega) (by rw [kw (by omega)];exact d2 hgt) (fun j h1 h2=>by rw [kw (by omega)];exact c2 j (by have:spK d n=spN d n (eolK d n):=rfl;omega) h2)
      omega
     rw [ma (n:=n) (by rw [jdr];omega) he hp,ma (n:=n) hn rfl rfl]
     unfold recN
     rw [if_neg (by rw [jdr];omega),if_neg hno,uh (by omega),uh (by omega)]
 · exact absurd rfl h
section
variable {rc:ByteArray→Int→List D × Int}
theorem sX {s:ByteArray}:∀ (m:Nat) (k:Int) (out:List (List D)), ∃ l,(rcF rc s m k out).1=out++l∧l.length≤m
 | 0,k,out=>⟨[],(jeu _).symm,jdm _⟩
 | m+1,k,out=>by
   rw [rcF]
   split
   · obtain ⟨l,h1,h2⟩:=sX m (k+(rc s k).2) (out++[(rc s k).1])
     exact ⟨(rc s k).1 :: l,by rw [h1,jdM];rfl,by simpa using h2⟩
   · exact ⟨[],(jeu _).symm,jc7 _⟩
theorem oF {s:ByteArray}:∀ (m:Nat) (k:Int) (out:List (List D)),out.length≤60→(rcF rc s m k out).1.length≤60
 | 0,k,out,h=>h
 | m+1,k,out,h=>by
   rw [rcF]
   split
   · rename_i hc
     exact oF m _ _ (by rw [jc8];exact hc.1)
   · exact h
theorem oG {d e:ByteArray} (H:∀ k,(rc d k).2 ≠ 0→rc (d++e) k=rc d k):∀ (m:Nat) (k:Int) (out:List (List D)),60≤m+out.length →
 ∃ m',60≤m' + (rcF rc d m k out).1.length∧rcF rc (d++e) m k out=rcF rc (d++e) m' (rcF rc d m k out).2 (rcF rc d m k out).1
 | 0,k,out,h=>⟨0,h,rfl⟩
 | m+1,k,out,h=>by
   by_cases hc:out.length < 60∧(rc d k).2 ≠ 0
   · obtain ⟨m',h1,h2⟩:=oG H m (k+(rc d k).2) (out++[(rc d k).1]) (by rw [jc8];simp;omega)
     have e1:rcF rc d (m+1) k out=rcF rc d m (k+(rc d k).2) (out++[(rc d k).1]):=by rw [rcF,if_pos hc]
     have e2:rcF rc (d++e) (m+1) k out=rcF rc (d++e) m (k+(rc d k).2) (out++[(rc d k).1]):=by rw [rcF,H k hc.2,if_pos hc]
     rw [e1,e2]
     exact ⟨m',h1,h2⟩
   · have e1:rcF rc d (m+1) k out=(out,k):=by rw [rcF,if_neg hc]
     rw [e1]
     exact ⟨m+1,h,rfl⟩
theorem sY {d e:ByteArray} (H:∀ k,(rc d k).2 ≠ 0→rc (d++e) k=rc d k):∃ l,(rcA rc (d++e)).1=(rcA rc d).1++l:=by
 obtain ⟨m',_,h⟩:=oG H 60 0 [] (by simp)
 unfold rcA
 rw [h]
 obtain ⟨l,h,_⟩:=sX (rc:=rc) (s:=d++e) m' (rcF rc d 60 0 []).2 (rcF rc d 60 0 []).1
 exact ⟨l,h⟩
theorem yY {d r:ByteArray} {o:List D} (H:∀ k,(rc d k).2 ≠ 0→rc (d++r) k=rc d k) (hn:(rcA rc d).2=(d.size:Int)) (hl:(rcA rc d).1.length ≠ 60) (hr:rc (d++r) (d.size:Int)=(o,(r.size:Int))) (hr0:r.size ≠ 0) (he:(rc (d++r) ((d++r).size:Int)).2=0) :
 rcA rc (d++r)=((rcA rc d).1++[o],((d++r).size:Int)):=by
 obtain ⟨m',h1,h⟩:=oG H 60 0 [] (by simp)
 have hle:(rcA rc d).1.length≤60:=oF 60 0 [] (jc7 _)
 have h' : rcA rc (d++r)=rcF rc (d++r) m' (rcA rc d).2 (rcA rc d).1:=h
 have h1' : 60≤m' + (rcA rc d).1.length:=h1
 obtain ⟨g,rfl⟩:∃ g,m' = g+1:=⟨m' - 1,by omega⟩
 rw [h',hn,rcF,if_pos ⟨by omega,by rw [hr];show (r.size:Int) ≠ 0;omega⟩,hr]
 have e:(d.size:Int)+((r.size:Nat):Int)=((d++r).size:Int):=by rw [jdr];omega
 show rcF rc (d++r) g ((d.size:Int)+(r.size:Int)) ((rcA rc d).1++[o])=_
 rw [e,gG (fun h=>h.2 he)]
end
theorem vF {t:ByteArray}:((recT t).toList == (⟨#[]⟩:ByteArray).toList)=(t.toList == (⟨#[]⟩:ByteArray).toList):=by
 by_cases h:t.data.toList=[]
 · rw [oE h]
   have:t.toList=(⟨#[]⟩:ByteArray).toList:=by rw [ByteArray.toList_eq,ByteArray.toList_eq,h]
   rw [this]
 · have h1:(t.toList == (⟨#[]⟩:ByteArray).toList)=false:=by
    rw [beq_eq_false_iff_ne,ByteArray.toList_eq,ByteArray.toList_eq]
    exact h
   have h2:((recT t).toList == (⟨#[]⟩:ByteArray).toList)=false:=by
    rw [beq_eq_false_iff_ne,ByteArray.toList_eq,ByteArray.toList_eq,jo h]
    simp
   rw [h1,h2]
theorem nh {t:ByteArray} (h:(recT t).toList ≠ []):t.toList ≠ []:=by
 intro e
 have:=vF (t:=t)
 rw [e,nil_toList] at this
 simp at this
 exact h this
theorem uf (s:ByteArray) (m:Nat):s.extract 0 m++s.extract m s.size=s:=by
 apply jes
 rw [ByteArray.data_append,jeX,jeX,Array.extract_append_extract]
 simp
 exact .inr (Nat.le_max_right _ _)
theorem xt {rc:ByteArray→Int→List D × Int} (hw:RcOk rc) {s:ByteArray} (hs:s.size≤1048576):∀ (m:Nat) (k:Int) (out:List (List D)),(∀ r ∈ out,WfRow T cO r)→∀ r ∈ (rcF rc s m k out).1,WfRow T cO r
 | 0,k,out,h=>h
 | m+1,k,out,h=>by
   rw [rcF]
   split
   · refine xt hw hs m _ _ fun r hr=>?_
     rcases jdG.1 hr with h1|h1
     · exact h r h1
     · rw [jdX.1 h1];exact (hw s k hs).1
   · exact h
theorem lawC:LawC rcX where
 pos s hs:=jbI rcX_ok hs
 app d e:=sY fun k h=>oD h
 pre s m:=by
  have:=sY (rc:=rcX) (d:=s.extract 0 m) (e:=s.extract m s.size) fun k h=>oD h
  rwa [uf] at this
 wf s hs:=xt rcX_ok hs 60 0 [] (fun r hr=>absurd hr jda)
theorem lawS:LawS rcX (fun a=>recT (aJ a)) where
 app:=lawC.app
 wf:=lawC.wf
 one d a ha hne hn hl:=by
  refine yY (fun k h=>oD h) hn hl ?_ ?_ ?_
  · have:=jby (po:=poX) (x:=d) (y:=⟨#[]⟩) (zd ha.wf (nh hne) (jdd ha.text (by decide))) (nh hne)
    rwa [show d++recT (aJ a)++(⟨#[]⟩:ByteArray)=d++recT (aJ a) from ByteArray.append_empty] at this
  · intro h
    apply hne
    rw [ByteArray.toList_eq]
    exact jdD.1 (by simpa using h)
  · exact congrArg Prod.snd (vE (po:=poX) (s:=d++recT (aJ a)) (k:=(d++recT (aJ a)).size) fun j h1 h2=>by omega)
 rsz a ha:=ha.rec
 len s:=oF 60 0 [] (jc7 _)
end Go.Proofs.YtdkofgjbbdbglaaGreatDoor.Ab
