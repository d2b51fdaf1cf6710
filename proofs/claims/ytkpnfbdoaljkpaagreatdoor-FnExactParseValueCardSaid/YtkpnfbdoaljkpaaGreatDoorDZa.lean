/- Values read back from their texts, by the reference and by the program, in plain Lean. No -/
import Derived.Test.YtkpnfbdoaljkpaaGreatDoorDYv
namespace Go.Proofs.YtkpnfbdoaljkpaaGreatDoor.Ab
open Go.RowKit
set_option linter.unusedVariables false
def Rest (s:ByteArray) (k:Nat) (l:List UInt8):Prop:=k≤s.size∧s.data.toList.drop k=l
theorem Rest.step {s:ByteArray} {k:Nat} {w q:List UInt8} (h:Rest s k (w++q)):Rest s (k+w.length) q:=by
  obtain ⟨h1,h2⟩:=h
  have hl:(s.data.toList.drop k).length=s.size - k:=by rw [List.length_drop,Array.length_toList];rfl
  rw [h2,List.length_append] at hl
  refine ⟨by omega,?_⟩
  rw [← List.drop_drop,h2]
  exact List.drop_left
theorem Rest.size {s:ByteArray} {k:Nat} {l:List UInt8} (h:Rest s k l):s.size=k+l.length:=by
  have hl:(s.data.toList.drop k).length=s.size - k:=by rw [List.length_drop,Array.length_toList];rfl
  rw [h.2] at hl
  have:=h.1
  omega
theorem Rest.st {s:ByteArray} {k:Nat} {l:List UInt8} (h:Rest s k l) (w:ByteArray):stB s (k:Int) w=w.data.toList.isPrefixOf l:=by
  rw [← pre_st h.1,ext_drop,h.2]
  rfl
theorem Rest.yes {s:ByteArray} {k:Nat} {w:ByteArray} {q:List UInt8} (h:Rest s k (w.data.toList++q)):stB s (k:Int) w=true:=by
  rw [h.st,List.isPrefixOf_iff_prefix]
  exact List.prefix_append _ _
theorem Rest.no {s:ByteArray} {k:Nat} {b:UInt8} {q:List UInt8} (h:Rest s k (b :: q)) {w:ByteArray} {c:UInt8} {r:List UInt8} (hw:w.data.toList=c :: r) (hn:c ≠ b):stB s (k:Int) w=false:=by
  rw [h.st,hw]
  show (c == b && _)=false
  rw [show (c == b)=false by simpa using hn]
  rfl
theorem Rest.ext {s:ByteArray} {k:Nat} {w q:List UInt8} (h:Rest s k (w++q)):s.extract k (k+w.length)=⟨w.toArray⟩:=by
  apply ByteArray.ext
  apply Array.ext'
  rw [ext_list,List.drop_take,h.2,show k+w.length - k=w.length by omega]
  simp
theorem Rest.run {s:ByteArray} {k:Nat} {w q:List UInt8} (h:Rest s k (w++q)) {P:Int→Bool} (hw:∀ b ∈ w,P (b.toNat:Int)=true) (hq:∀ b r,q=b :: r→P (b.toNat:Int)=false):runB P s k=k+w.length:=by
  unfold runB
  rw [h.2,List.takeWhile_append_of_pos hw]
  have:(q.takeWhile fun b=>P (b.toNat:Int))=[]:=by
    cases q with
    | nil=>rfl
    | cons b r=>exact List.takeWhile_cons_of_neg (by rw [hq b r rfl];decide)
  rw [this,List.append_nil]
def Sep (q:List UInt8):Prop:=∀ b r,q=b :: r→mdB (b.toNat:Int)=false
theorem sep_of {b:UInt8} {r:List UInt8} (h:mdB (b.toNat:Int)=false):Sep (b :: r):=by
  intro b' r' he
  obtain ⟨rfl,rfl⟩:=List.cons.inj he
  exact h
theorem sep_nil:Sep []:=fun b r h=>by cases h
theorem md_dig {b:UInt8} (h:mdB (b.toNat:Int)=false):digB (b.toNat:Int)=false:=by
  unfold mdB at h
  rw [Bool.or_eq_false_iff] at h
  exact h.2
theorem dec_dig {u:Nat}:∀ b ∈ Lib.decDigits u,digB (b.toNat:Int)=true:=by
  intro b hb
  have:=digits_mem u b hb
  unfold digB
  rw [Bool.and_eq_true,decide_eq_true_eq,decide_eq_true_eq]
  omega
theorem itoa_md (n:Int):∀ b ∈ Lib.itoa n,mdB (b.toNat:Int)=true:=by
  intro b hb
  have hd:∀ u,b ∈ Lib.decDigits u→mdB (b.toNat:Int)=true:=fun u h=>by
    unfold mdB;rw [dec_dig b h];simp
  unfold Lib.itoa at hb
  split at hb
  · rcases List.mem_cons.1 hb with h|h
    · rw [h];rfl
    · exact hd _ h
  · exact hd _ hb
theorem itoa_head (n:Int):∃ b r,Lib.itoa n=b :: r∧mdB (b.toNat:Int)=true:=by
  have hm:=itoa_md n
  cases h:Lib.itoa n with
  | nil =>
    have:=itoaB_ne n
    have e:(itoaB n).size=(Lib.itoa n).length:=List.size_toArray
    rw [e,h] at this
    exact absurd rfl this
  | cons b r=>exact ⟨b,r,rfl,hm b (by rw [h];exact List.mem_cons_self ..)⟩
theorem byte_ne {b c:UInt8} (h:mdB (b.toNat:Int)=true) (hc:mdB (c.toNat:Int)=false):c ≠ b:=fun e=>by rw [e,h] at hc;cases hc
theorem Rest.num {s:ByteArray} {k:Nat} {n:Int} {q:List UInt8} (h:Rest s k (Lib.itoa n++q)) (hq:Sep q) (hn:inR n (-1000000000) 1000000000=true) :
    intP s (k:Int)=(n,((k+(Lib.itoa n).length:Nat):Int))∧∀ b,numIR s (k:Int) b=(vNum n,((k+(Lib.itoa n).length:Nat):Int),b):=by
  unfold inR at hn
  rw [Bool.and_eq_true,decide_eq_true_eq,decide_eq_true_eq] at hn
  have hp:prs (-999999999999) 999999999999 (itoaB n)=(n,true):=prs_yes (by omega) (by omega) rfl
  have e1:numE s k=k+(Lib.itoa n).length:=by
    unfold numE
    by_cases hneg:n < 0
    · have hi:Lib.itoa n=45 :: Lib.decDigits n.natAbs:=by unfold Lib.itoa;rw [if_pos hneg]
      rw [hi] at h
      have hs:=h.size
      have h45:bAt s k=45:=by
        have:=drop_at (s:=s) (k:=k) (by rw [hs,List.cons_append,List.length_cons];omega)
        rw [h.2,List.cons_append] at this
        show ((s.data.getD k 0).toNat:Int)=45
        rw [← (List.cons.inj this).1];rfl
      have hsg:sgnK s k=k+1:=if_pos ⟨by rw [hs,List.cons_append,List.length_cons];omega,h45⟩
      have h2:Rest s (k+1) (Lib.decDigits n.natAbs++q):=Rest.step (w:=[45]) h
      rw [hsg,h2.run dec_dig (fun b r e=>md_dig (hq b r e)),hi,List.length_cons]
      omega
    · have hi:Lib.itoa n=Lib.decDigits n.toNat:=by unfold Lib.itoa;rw [if_neg hneg]
      rw [hi] at h
      have hsg:sgnK s k=k:=by
        refine if_neg fun ⟨h1,h2⟩=>?_
        have hd:=drop_at h1
        rw [h.2] at hd
        cases he:Lib.decDigits n.toNat with
        | nil=>exact digits_ne _ he
        | cons b r =>
          rw [he,List.cons_append] at hd
          have hb:=dec_dig b (by rw [he];exact List.mem_cons_self ..)
          have:bAt s k=(b.toNat:Int):=by show ((s.data.getD k 0).toNat:Int)=_;rw [← (List.cons.inj hd).1]
          rw [this] at h2
          rw [h2] at hb
          cases hb
      rw [hsg,h.run dec_dig (fun b r e=>md_dig (hq b r e)),hi]
  have e2:numIE s (k:Int)=k+(Lib.itoa n).length:=h.run (P:=mdB) (itoa_md n) hq
  have e3:s.extract k (k+(Lib.itoa n).length)=itoaB n:=h.ext
  refine ⟨?_,fun b=>?_⟩
  · have:prsN s ((k:Int).toNat)=(n,true):=by show prs _ _ (s.extract k (numE s k))=_;rw [e1,e3,hp]
    unfold intP
    rw [this]
    show (n,(numE s k:Int))=_
    rw [e1]
  · have:prsI s (k:Int)=(n,true):=by show prs _ _ (s.extract k (numIE s (k:Int)))=_;rw [e2,e3,hp]
    unfold numIR
    rw [this,e2]
    simp
theorem okTxt_at {t:ByteArray} (h:okTxt t=true):∀ b ∈ t.data.toList,((b.toNat:Int) != 34)=true:=by
  intro b hb
  unfold okTxt at h
  rw [Bool.and_eq_true,allB_iff] at h
  obtain ⟨i,hi,rfl⟩:=mem_at 0 hb
  have hl:t.data.toList.length=t.size:=Array.length_toList
  have:=h.1 i (by omega)
  unfold txtByte at this
  rw [Bool.not_eq_true',Bool.or_eq_false_iff,Bool.or_eq_false_iff] at this
  have h2:=this.2
  have e:bAt t i=((t.data.toList.getD i 0).toNat:Int):=by
    show ((t.data.getD i 0).toNat:Int)=_
    rw [Array.getD_eq_getD_getElem?,List.getD_eq_getElem?_getD,Array.getElem?_toList]
  rw [e] at h2
  rw [bne,h2];rfl
theorem Rest.quo {s:ByteArray} {k:Nat} {t:ByteArray} {q:List UInt8} (h:Rest s k (34 :: (t.data.toList++34 :: q))) (ht:∀ b ∈ t.data.toList,((b.toNat:Int) != 34)=true):stB s (k:Int) QUO=true∧quoP s (k:Int)=(t,((k+2+t.size:Nat):Int)):=by
  have hq:stB s (k:Int) QUO=true:=Rest.yes (w:=QUO) h
  have h2:Rest s (k+1) (t.data.toList++34 :: q):=Rest.step (w:=[34]) h
  have hl:t.data.toList.length=t.size:=Array.length_toList
  have e:quoE s (k:Int)=k+1+t.size:=by
    show runB _ s (k+1)=_
    rw [h2.run (P:=fun b=>b != 34) ht (fun b r e=>by obtain ⟨rfl,_⟩:=List.cons.inj e;rfl),hl]
  have hs:=h2.size
  rw [List.length_append,List.length_cons,hl] at hs
  have e3:s.extract (k+1) (k+1+t.size)=t:=by
    have:=h2.ext
    rw [hl] at this
    rw [this]
  refine ⟨hq,?_⟩
  unfold quoP
  rw [if_pos hq,if_neg (by omega),e]
  show (s.extract (k+1) (k+1+t.size),_)=_
  rw [e3]
  congr 1
  omega
abbrev fB (v:List D):List UInt8:=(fmtV v).data.toList
theorem join_two (x y:List UInt8) (r:List (List UInt8)) (sep:List UInt8):Lib.join (x :: y :: r) sep=x++(sep++Lib.join (y :: r) sep):=by
  rw [Lib.join_cons,Lib.join_cons]
  simp [Lib.joinTail]
theorem brk_list (xs:List ByteArray):(brk xs).data.toList=91 :: (Lib.join (xs.map (·.data.toList)) [44,32]++[93]):=by
  unfold brk joinT
  simp
theorem fB_num (n:Int):fB (vNum n)=Lib.itoa n:=by
  show (fmtV (vNum n)).data.toList=_
  rw [← fm1 (n:=n) (st:=0) (tx:=ES) (l4:=[]) (l5:=[]) (l6:=[]),itoaB_list]
theorem fB_txt (t:ByteArray):fB (vTxt t)=34 :: (t.data.toList++[34]):=by
  show (fmtV (vTxt t)).data.toList=_
  rw [← fm2 (n:=0) (st:=0) (tx:=t) (l4:=[]) (l5:=[]) (l6:=[])]
  simp
theorem fB_lst (l:List (List D)):fB (vLst l)=91 :: (Lib.join (l.map fB) [44,32]++[93]):=by
  show (fmtV (vLst l)).data.toList=_
  rw [← fm3 (n:=0) (st:=0) (tx:=ES) (l4:=l) (l5:=[]) (l6:=[]),brk_list,List.map_map]
  rfl
theorem join_len (v w:List D) (r:List (List D)):(Lib.join ((v :: w :: r).map fB) [44,32]).length=(fB v).length+2+(Lib.join ((w :: r).map fB) [44,32]).length:=by
  show (Lib.join (fB v :: fB w :: r.map fB) [44,32]).length=(fB v).length+2+(Lib.join (fB w :: r.map fB) [44,32]).length
  rw [join_two,List.length_append,List.length_append]
  show (fB v).length+(2+_)=_
  omega
section
variable (s:ByteArray)
def GS (n:Nat) (v:List D):Prop:=∀ (k:Nat) (q:List UInt8),Rest s k (fB v++q)→Sep q→parF s n (k:Int)=(v,((k+(fB v).length:Nat):Int))
def GI (d:Nat) (v:List D):Prop:=∀ (k:Nat) (q:List UInt8),Rest s k (fB v++q)→Sep q→valI s d (k:Int) true=(v,((k+(fB v).length:Nat):Int),true)
end
def Hd (v:List D):Prop:=∃ b r,fB v=b :: r∧b ≠ 93
variable {s:ByteArray}
theorem items_S {n:Nat}:∀ (l:List (List D)),l ≠ []→(∀ v ∈ l,GS s n v)→∀ (m k:Nat) (out:List (List D)) (q:List UInt8),l.length≤m→Rest s k (Lib.join (l.map fB) [44,32]++93 :: q) →
    itemsF (parF s n) s m (k:Int) out=(out++l,((k+(Lib.join (l.map fB) [44,32]).length+1:Nat):Int))
  | [],h,_,_,_,_,_,_,_=>absurd rfl h
  | [v],_,hg,m,k,out,q,hm,hr=>by
    obtain ⟨m,rfl⟩:∃ m',m=m' + 1:=⟨m - 1,by simp at hm;omega⟩
    rw [List.map_singleton,Lib.join_one] at hr ⊢
    have hp:=hg v (List.mem_singleton_self _) k (93 :: q) hr (sep_of rfl)
    have h2:Rest s (k+(fB v).length) (93 :: q):=hr.step
    have hb:stB s (((k+(fB v).length:Nat):Int)) RBR=true:=Rest.yes (w:=RBR) h2
    rw [itF_2 (by rw [hp];exact decide_eq_false (by show ¬ ((k+(fB v).length:Nat):Int) < 0;omega)) (by rw [hp];exact hb),hp]
    rfl
  | v :: w :: r,_,hg,m,k,out,q,hm,hr=>by
    obtain ⟨m,rfl⟩:∃ m',m=m' + 1:=⟨m - 1,by simp at hm;omega⟩
    rw [List.map_cons,List.map_cons,join_two,List.append_assoc,List.append_assoc] at hr
    have hp:=hg v (List.mem_cons_self ..) k _ hr (sep_of rfl)
    have h2:Rest s (k+(fB v).length) (44 :: (32 :: (Lib.join ((w :: r).map fB) [44,32]++93 :: q))):=hr.step
    have hb:stB s (((k+(fB v).length:Nat):Int)) RBR=false:=h2.no (w:=RBR) (c:=93) (r:=[]) rfl (by decide)
    have hc:stB s (((k+(fB v).length:Nat):Int)) COMMA=true:=Rest.yes (w:=COMMA) h2
    have h3:Rest s (k+(fB v).length+2) (Lib.join ((w :: r).map fB) [44,32]++93 :: q):=Rest.step (w:=[44,32]) h2
    have ih:=items_S (n:=n) (w :: r) (by simp) (fun x hx=>hg x (List.mem_cons_of_mem _ hx)) m (k+(fB v).length+2) (out++[v]) q (by simp at hm ⊢;omega) h3
    rw [itF_4 (by rw [hp];exact decide_eq_false (by show ¬ ((k+(fB v).length:Nat):Int) < 0;omega)) (by rw [hp];exact hb) (by rw [hp];exact notT hc),hp]
    show itemsF (parF s n) s m ((((k+(fB v).length:Nat):Int))+2) (out++[v])=_
    rw [show (((k+(fB v).length:Nat):Int))+2=((k+(fB v).length+2:Nat):Int) by omega,ih,join_len,List.append_assoc]
    show (out++(v :: w :: r),_)=_
    congr 2
    omega
theorem items_I {d:Nat}:∀ (l:List (List D)),l ≠ []→(∀ v ∈ l,GI s d v)→∀ (m k:Nat) (out:List (List D)) (q:List UInt8),l.length≤m→Rest s k (Lib.join (l.map fB) [44,32]++93 :: q) →
    itemsI (valI s d) s m (k:Int) true out=(out++l,((k+(Lib.join (l.map fB) [44,32]).length+1:Nat):Int),true)
  | [],h,_,_,_,_,_,_,_=>absurd rfl h
  | [v],_,hg,m,k,out,q,hm,hr=>by
    obtain ⟨m,rfl⟩:∃ m',m=m' + 1:=⟨m - 1,by simp at hm;omega⟩
    rw [List.map_singleton,Lib.join_one] at hr ⊢
    have hp:=hg v (List.mem_singleton_self _) k (93 :: q) hr (sep_of rfl)
    have h2:Rest s (k+(fB v).length) (93 :: q):=hr.step
    have hb:stB s (((k+(fB v).length:Nat):Int)) RBR=true:=Rest.yes (w:=RBR) h2
    rw [itI_1 (by rw [hp];exact hb),hp]
    rfl
  | v :: w :: r,_,hg,m,k,out,q,hm,hr=>by
    obtain ⟨m,rfl⟩:∃ m',m=m' + 1:=⟨m - 1,by simp at hm;omega⟩
    rw [List.map_cons,List.map_cons,join_two,List.append_assoc,List.append_assoc] at hr
    have hp:=hg v (List.mem_cons_self ..) k _ hr (sep_of rfl)
    have h2:Rest s (k+(fB v).length) (44 :: (32 :: (Lib.join ((w :: r).map fB) [44,32]++93 :: q))):=hr.step
    have hb:stB s (((k+(fB v).length:Nat):Int)) RBR=false:=h2.no (w:=RBR) (c:=93) (r:=[]) rfl (by decide)
    have hc:stB s (((k+(fB v).length:Nat):Int)) COMMA=true:=Rest.yes (w:=COMMA) h2
    have h3:Rest s (k+(fB v).length+2) (Lib.join ((w :: r).map fB) [44,32]++93 :: q):=Rest.step (w:=[44,32]) h2
    have ih:=items_I (d:=d) (w :: r) (by simp) (fun x hx=>hg x (List.mem_cons_of_mem _ hx)) m (k+(fB v).length+2) (out++[v]) q (by simp at hm ⊢;omega) h3
    have ek:andK s ((k+(fB v).length:Nat):Int) true COMMA=((k+(fB v).length+2:Nat):Int):=by
      rw [← andK_T rfl,tk_one hc]
      show (((k+(fB v).length:Nat):Int))+2=_
      omega
    have eb:andB s ((k+(fB v).length:Nat):Int) true COMMA=true:=by rw [← andB_1 rfl];exact hc
    rw [itI_2 (by rw [hp];exact hb),hp]
    show itemsI (valI s d) s m (andK s ((k+(fB v).length:Nat):Int) true COMMA) (andB s ((k+(fB v).length:Nat):Int) true COMMA) (out++[v])=_
    rw [ek,eb,ih,join_len,List.append_assoc]
    show (out++(v :: w :: r),_,true)=_
    congr 2
    congr 1
    omega
theorem hd_rest {l:List (List D)} (hne:l ≠ []) (hh:∀ v ∈ l,Hd v) {q:List UInt8} {k:Nat} (h:Rest s k (Lib.join (l.map fB) [44,32]++q)):stB s (k:Int) RBR=false:=by
  cases l with
  | nil=>exact absurd rfl hne
  | cons v r =>
    obtain ⟨b,t,hb,hn⟩:=hh v (List.mem_cons_self ..)
    rw [List.map_cons,Lib.join_cons,hb,List.cons_append,List.cons_append] at h
    exact h.no (w:=RBR) (c:=93) (r:=[]) rfl (fun e=>hn e.symm)
theorem list_S {n:Nat} {l:List (List D)} (hl:l.length≤64) (hg:∀ v ∈ l,GS s n v) (hh:∀ v ∈ l,Hd v) {k:Nat} {q:List UInt8} (h:Rest s k (Lib.join (l.map fB) [44,32]++93 :: q)) :
    itmP (parF s n) s (k:Int)=(l,((k+(Lib.join (l.map fB) [44,32]).length+1:Nat):Int)):=by
  by_cases hne:l=[]
  · subst hne
    have hb:stB s (k:Int) RBR=true:=Rest.yes (w:=RBR) h
    rw [itm_1 hb]
    rfl
  · rw [itm_2 (hd_rest hne hh h),items_S l hne hg 64 k [] q hl h]
    rfl
theorem list_I {d:Nat} {l:List (List D)} (hg:∀ v ∈ l,GI s d v) (hh:∀ v ∈ l,Hd v) {k:Nat} {q:List UInt8} (h:Rest s k (91 :: (Lib.join (l.map fB) [44,32]++93 :: q))) (hl:l.length≤s.size+3) :
    valI s (d+1) (k:Int) true=(vLst l,((k+(Lib.join (l.map fB) [44,32]).length+2:Nat):Int),true):=by
  have hq:stB s (k:Int) QUO=false:=h.no (w:=QUO) (c:=34) (r:=[]) rfl (by decide)
  have hb:stB s (k:Int) LBR=true:=Rest.yes (w:=LBR) h
  have h2:Rest s (k+1) (Lib.join (l.map fB) [44,32]++93 :: q):=Rest.step (w:=[91]) h
  have e1:((k:Int)+1)=((k+1:Nat):Int):=by omega
  by_cases hne:l=[]
  · subst hne
    have hr:stB s ((k:Int)+1) RBR=true:=by rw [e1];exact Rest.yes (w:=RBR) h2
    rw [vI_e hq hb hr]
    rfl
  · have hr:stB s ((k:Int)+1) RBR=false:=by rw [e1];exact hd_rest hne hh h2
    rw [vI_l hq hb hr,e1,items_I l hne hg (s.size+3) (k+1) [] q hl h2]
    show (vLst ([]++l),_,_)=_
    rw [List.nil_append]
    congr 2
    omega
end Go.Proofs.YtkpnfbdoaljkpaaGreatDoor.Ab
namespace Go.Proofs.YtkpnfbdoaljkpaaGreatDoor.Ab
open Go.RowKit
set_option linter.unusedVariables false
inductive Can:List D→Prop
  | nil:Can vNil
  | num (n:Int):Can (vNum n)
  | txt (t:ByteArray):Can (vTxt t)
  | lst (l:List (List D)):(∀ r ∈ l,Can r)→Can (vLst l)
  | str (n m:Int):Can (vStr n m)
  | tbl (c:List ByteArray) (l:List (List D)):Can (vTbl (strRows c) (l.map rowOfV))
  | err (n:Int):Can (vErr n)
theorem hd_num (n:Int):Hd (vNum n):=by
  obtain ⟨b,r,h,hm⟩:=itoa_head n
  exact ⟨b,r,by rw [fB_num,h],fun e=>by rw [e] at hm;cases hm⟩
variable {s:ByteArray}
theorem num_no {n:Int} {k:Nat} {q:List UInt8} (h:Rest s k (Lib.itoa n++q)) {w:ByteArray} {c:UInt8} {r:List UInt8} (hw:w.data.toList=c :: r) (hc:mdB (c.toNat:Int)=false):stB s (k:Int) w=false:=by
  obtain ⟨b,t,hb,hm⟩:=itoa_head n
  rw [hb,List.cons_append] at h
  exact h.no hw (byte_ne hm hc)
theorem num_GS {n:Int} (hn:inR n (-1000000000) 1000000000=true) (m:Nat):GS s (m+1) (vNum n):=by
  intro k q h hq
  rw [fB_num] at h ⊢
  have hN:=(h.num hq hn).1
  show parP _ s (k:Int)=_
  rw [par_6 (num_no h (w:=QUO) rfl rfl) (num_no h (w:=LBR) rfl rfl) (num_no h (w:=RNG) rfl rfl) (num_no h (w:=TBO) rfl rfl) (num_no h (w:=ERR) rfl rfl),hN]
theorem num_GI {n:Int} (hn:inR n (-1000000000) 1000000000=true):∀ d,GI s d (vNum n)
  | 0=>by
    intro k q h hq
    rw [fB_num] at h ⊢
    rw [vI_n0 (num_no h (w:=QUO) rfl rfl),(h.num hq hn).2 true]
  | d+1=>by
    intro k q h hq
    rw [fB_num] at h ⊢
    rw [vI_n (num_no h (w:=QUO) rfl rfl) (num_no h (w:=LBR) rfl rfl),(h.num hq hn).2 true]
theorem txt_back {t:ByteArray} (ht:∀ b ∈ t.data.toList,((b.toNat:Int) != 34)=true) (m:Nat):GS s (m+1) (vTxt t)∧GI s m (vTxt t):=by
  have hl:(fB (vTxt t)).length=t.size+2:=by
    rw [fB_txt,List.length_cons,List.length_append,Array.length_toList];rfl
  have key:∀ (k:Nat) (q:List UInt8),Rest s k (fB (vTxt t)++q)→stB s (k:Int) QUO=true∧quoP s (k:Int)=(t,((k+(fB (vTxt t)).length:Nat):Int)):=by
    intro k q h
    have h' : Rest s k (34 :: (t.data.toList++34 :: q)):=by
      rw [fB_txt,List.cons_append,List.append_assoc] at h
      exact h
    have:=h'.quo ht
    refine ⟨this.1,?_⟩
    rw [this.2,hl]
    congr 2
    omega
  refine ⟨fun k q h hq=>?_,fun k q h hq=>?_⟩
  · obtain ⟨h1,h2⟩:=key k q h
    show parP _ s (k:Int)=_
    rw [par_1 h1,h2]
  · obtain ⟨h1,h2⟩:=key k q h
    rw [vI_t2 h1 (by rw [h2];show ¬ ((k+(fB (vTxt t)).length:Nat):Int) < 0;omega) m,h2]
theorem lst_len (l:List (List D)):(fB (vLst l)).length=(Lib.join (l.map fB) [44,32]).length+2:=by
  rw [fB_lst,List.length_cons,List.length_append];rfl
theorem lst_rest {l:List (List D)} {k:Nat} {q:List UInt8} (h:Rest s k (fB (vLst l)++q)):Rest s k (91 :: (Lib.join (l.map fB) [44,32]++93 :: q)):=by
  rw [fB_lst,List.cons_append,List.append_assoc] at h
  exact h
theorem lst_GS {n:Nat} {l:List (List D)} (hl:l.length≤64) (hg:∀ v ∈ l,GS s n v) (hh:∀ v ∈ l,Hd v):GS s (n+1) (vLst l):=by
  intro k q h hq
  have h:=lst_rest h
  have h2:Rest s (k+1) (Lib.join (l.map fB) [44,32]++93 :: q):=Rest.step (w:=[91]) h
  show parP (itmP (parF s n) s) s (k:Int)=_
  rw [par_2 (y:=((k+1:Nat):Int)) (by omega) (h.no (w:=QUO) (c:=34) (r:=[]) rfl (by decide)) (Rest.yes (w:=LBR) h),list_S hl hg hh h2,lst_len]
  show (vLst l,_)=_
  congr 2
  omega
theorem lst_GI {d:Nat} {l:List (List D)} (hg:∀ v ∈ l,GI s d v) (hh:∀ v ∈ l,Hd v):GI s (d+1) (vLst l):=by
  intro k q h hq
  have hs:=h.size
  have hl:l.length≤(Lib.join (l.map fB) [44,32]).length+1:=by
    have:∀ l:List (List D),l.length≤(Lib.join (l.map fB) [44,32]).length+1:=by
      intro l
      induction l with
      | nil=>exact Nat.zero_le _
      | cons v r ih =>
        cases r with
        | nil=>exact Nat.le_add_left _ _
        | cons w r=>rw [join_len,List.length_cons];omega
    exact this l
  rw [List.length_append,lst_len] at hs
  rw [list_I hg hh (lst_rest h) (by omega),lst_len]
  congr 2
theorem el_back:∀ (m:Nat) (v:List D),Can v→okV v=true→elK v=true→depV v≤(m:Int)+1→GS s (m+1) v∧GI s (m+1) v∧Hd v:=by
  intro m
  induction m with
  | zero =>
    intro v hc ho hk hd
    cases hc with
    | nil=>cases hk
    | num n =>
      have hn:inR n (-1000000000) 1000000000=true:=okV_num ho rfl
      exact ⟨num_GS hn 0,num_GI hn 1,hd_num n⟩
    | txt t =>
      have ht:=okTxt_at (okV_txt ho rfl).1
      exact ⟨(txt_back ht 0).1,(txt_back ht 1).2,⟨34,_,fB_txt t,by decide⟩⟩
    | lst l hl =>
      have hz:l=[]:=by
        refine List.length_eq_zero_iff.1 ?_
        refine Classical.byContradiction fun hne=>?_
        have h1:=depV_pos (rAt (lst (vLst l)) 0)
        have h2:=le_maxB (F:=fun i=>depV (rAt (lst (vLst l)) i)) (n:=(lst (vLst l)).length) (i:=0) (by show 0 < l.length;omega)
        rw [depV_eq] at hd
        omega
      subst hz
      exact ⟨lst_GS (by decide) (fun v h=>absurd h (List.not_mem_nil)) (fun v h=>absurd h (List.not_mem_nil)),lst_GI (fun v h=>absurd h (List.not_mem_nil)) (fun v h=>absurd h (List.not_mem_nil)),⟨91,_,fB_lst _,by decide⟩⟩
    | str n m=>cases hk
    | tbl c l=>cases hk
    | err n=>cases hk
  | succ m ih =>
    intro v hc ho hk hd
    cases hc with
    | nil=>cases hk
    | num n =>
      have hn:inR n (-1000000000) 1000000000=true:=okV_num ho rfl
      exact ⟨num_GS hn _,num_GI hn _,hd_num n⟩
    | txt t =>
      have ht:=okTxt_at (okV_txt ho rfl).1
      exact ⟨(txt_back ht _).1,(txt_back ht _).2,⟨34,_,fB_txt t,by decide⟩⟩
    | lst l hl =>
      obtain ⟨h1,h2,_⟩:=listV_at (okV_list ho rfl).1
      have hel:∀ r ∈ l,GS s (m+1) r∧GI s (m+1) r∧Hd r:=by
        intro r hr
        obtain ⟨i,hi,rfl⟩:=mem_at [] hr
        refine ih _ (hl _ hr) (h1 i hi).2 (h1 i hi).1 ?_
        have h3:=le_maxB (F:=fun i=>depV (rAt (lst (vLst l)) i)) (n:=(lst (vLst l)).length) (i:=i) hi
        rw [depV_eq] at hd
        have:depV (rAt (lst (vLst l)) i)≤(m:Int)+1:=by push_cast at hd;omega
        exact this
      exact ⟨lst_GS (Nat.le_trans h2 (by decide)) (fun v h=>(hel v h).1) (fun v h=>(hel v h).2.2),lst_GI (fun v h=>(hel v h).2.1) (fun v h=>(hel v h).2.2),⟨91,_,fB_lst _,by decide⟩⟩
    | str n m=>cases hk
    | tbl c l=>cases hk
    | err n=>cases hk
theorem can_items {par:Int→List D × Int} (h:∀ k,Can (par k).1):∀ (m:Nat) (k:Int) (out:List (List D)),(∀ r ∈ out,Can r)→∀ r ∈ (itemsF par s m k out).1,Can r
  | 0,_,_,_,r,hr=>absurd hr (List.not_mem_nil)
  | m+1,k,out,ho,r,hr=>by
    have ho' : ∀ r ∈ out++[(par k).1],Can r:=by
      intro r hr
      rcases List.mem_append.1 hr with h2|h2
      · exact ho r h2
      · rw [List.mem_singleton.1 h2];exact h k
    unfold itemsF at hr
    split at hr
    · exact absurd hr (List.not_mem_nil)
    split at hr
    · exact ho' r hr
    split at hr
    · exact absurd hr (List.not_mem_nil)
    · exact can_items h m _ _ ho' r hr
theorem can_par:∀ (n:Nat) (k:Int),Can (parF s n k).1
  | 0,_=>.nil
  | n+1,k=>by
    have itm:∀ k, ∀ r ∈ (itmP (parF s n) s k).1,Can r:=by
      intro k r hr
      unfold itmP at hr
      split at hr
      · exact absurd hr (List.not_mem_nil)
      · exact can_items (fun k=>can_par n k) 64 k [] (fun r h=>absurd h (List.not_mem_nil)) r hr
    show Can (parP (itmP (parF s n) s) s k).1
    unfold parP
    split
    · exact .txt _
    split
    · exact .lst _ (itm _)
    split
    · unfold strP
      repeat' split
      all_goals first
        | exact .nil
        | exact .str _ _
    split
    · unfold tabP
      repeat' split
      all_goals first
        | exact .nil
        | exact .tbl _ _
    split
    · exact .err _
    · exact .num _
theorem can_itI {val:Int→Bool→Rd3} (h:∀ k b,Can (val k b).1):∀ (m:Nat) (k:Int) (b:Bool) (out:List (List D)),(∀ r ∈ out,Can r)→∀ r ∈ (itemsI val s m k b out).1,Can r
  | 0,_,_,_,ho=>ho
  | m+1,k,b,out,ho=>by
    have ho' : ∀ r ∈ out++[(val k b).1],Can r:=by
      intro r hr
      rcases List.mem_append.1 hr with h2|h2
      · exact ho r h2
      · rw [List.mem_singleton.1 h2];exact h k b
    unfold itemsI
    split
    · exact ho
    split
    · exact ho'
    · exact can_itI h m _ _ _ ho'
theorem can_val:∀ (d:Nat) (k:Int) (b:Bool),Can (valI s d k b).1
  | 0, k,b=>by
    unfold valI
    split
    · split
      · exact .nil
      · exact .txt _
    · exact .num _
  | d+1,k,b=>by
    unfold valI
    split
    · split
      · exact .nil
      · exact .txt _
    split
    · split
      · exact .lst [] (fun r h=>absurd h (List.not_mem_nil))
      · exact .lst _ (can_itI (fun k b=>can_val d k b) _ _ _ [] (fun r h=>absurd h (List.not_mem_nil)))
    · exact .num _
theorem can_whole:Can (wholeI s).1:=by
  unfold wholeI
  split
  · exact .err _
  split
  · exact .str _ _
  split
  · exact .tbl _ _
  · exact can_val 3 0 true
end Go.Proofs.YtkpnfbdoaljkpaaGreatDoor.Ab
namespace Go.Proofs.YtkpnfbdoaljkpaaGreatDoor.Ab
open Go.RowKit
set_option linter.unusedVariables false
variable {s:ByteArray}
theorem Rest.whole {l:List UInt8} (h:s.data.toList=l):Rest s 0 l:=⟨Nat.zero_le _,by rw [List.drop_zero];exact h⟩
theorem whole_val (h1:stB s 0 ERR=false) (h2:stB s 0 RNG=false) (h3:stB s 0 TBO=false):wholeI s=valI s 3 0 true:=by
  unfold wholeI
  rw [if_neg (by rw [h1];decide),if_neg (by rw [h2];decide),if_neg (by rw [h3];decide)]
theorem top_el {v:List D} (hc:Can v) (ho:okV v=true) (hk:elK v=true) (hs:s.data.toList=fB v) {n:Nat} (hn:5≤n) :
    parF s n 0=(v,(s.size:Int))∧wholeI s=(v,(s.size:Int),true):=by
  have hr:Rest s 0 (fB v++[]):=Rest.whole (by rw [hs,List.append_nil])
  have hl:(fB v).length=s.size:=by rw [← hs,Array.length_toList];rfl
  have hd:depV v≤3:=by
    cases hc with
    | nil=>cases hk
    | num n=>rw [depV_eq];exact (show (0:Int)+1≤3 by decide)
    | txt t=>rw [depV_eq];exact (show (0:Int)+1≤3 by decide)
    | lst l h=>exact (listV_at (okV_list ho rfl).1).2.2
    | str n m=>cases hk
    | tbl c l=>cases hk
    | err n=>cases hk
  obtain ⟨m,rfl⟩:∃ m,n=m+1:=⟨n - 1,by omega⟩
  obtain ⟨hS,_,b,r,hb,_⟩:=el_back (s:=s) m v hc ho hk (by omega)
  obtain ⟨_,hI,_⟩:=el_back (s:=s) 2 v hc ho hk (by omega)
  have h1:=hS 0 [] hr sep_nil
  have h2:=hI 0 [] hr sep_nil
  rw [Nat.zero_add,hl] at h1 h2
  have hbb:b=34∨b=91∨mdB (b.toNat:Int)=true:=by
    cases hc with
    | nil=>cases hk
    | num n =>
      obtain ⟨b',r',h',hm⟩:=itoa_head n
      rw [fB_num,h'] at hb
      obtain ⟨rfl,_⟩:=List.cons.inj hb
      exact .inr (.inr hm)
    | txt t=>rw [fB_txt] at hb;exact .inl (List.cons.inj hb).1.symm
    | lst l h=>rw [fB_lst] at hb;exact .inr (.inl (List.cons.inj hb).1.symm)
    | str n m=>cases hk
    | tbl c l=>cases hk
    | err n=>cases hk
  have hno:∀ {w:ByteArray} {c:UInt8} {t:List UInt8},w.data.toList=c :: t→c ≠ 34→c ≠ 91→mdB (c.toNat:Int)=false→stB s 0 w=false:=by
    intro w c t hw c1 c2 c3
    rw [List.append_nil,hb] at hr
    refine hr.no hw ?_
    rcases hbb with rfl|rfl|h
    · exact c1
    · exact c2
    · exact byte_ne h c3
  refine ⟨h1,?_⟩
  rw [whole_val (hno (w:=ERR) rfl (by decide) (by decide) rfl) (hno (w:=RNG) rfl (by decide) (by decide) rfl) (hno (w:=TBO) rfl (by decide) (by decide) rfl)]
  exact h2
theorem neg_no (a:Nat):decide (((a:Nat):Int) < 0)=false:=decide_eq_false (by omega)
theorem fB_str (n m:Int):fB (vStr n m)=RNG.data.toList++(Lib.itoa n++(COMMA.data.toList++(Lib.itoa m++[41]))):=by
  show (fmtV (vStr n m)).data.toList=_
  rw [← fm4 (n:=n) (st:=m) (tx:=ES) (l4:=[]) (l5:=[]) (l6:=[])]
  simp [itoaB_list]
theorem top_str {n m:Int} (hn:inR n (-1000000000) 1000000000=true) (hm:inR m (-1000000000) 1000000000=true) (hs:s.data.toList=fB (vStr n m)) (f:Nat) :
    parF s (f+1) 0=(vStr n m,(s.size:Int))∧wholeI s=(vStr n m,(s.size:Int),true):=by
  rw [fB_str] at hs
  have r0:Rest s 0 (RNG.data.toList++(Lib.itoa n++(COMMA.data.toList++(Lib.itoa m++[41])))):=Rest.whole hs
  have r1:Rest s 6 (Lib.itoa n++(COMMA.data.toList++(Lib.itoa m++[41]))):=r0.step
  have n1:=r1.num (sep_of rfl) hn
  have r2:Rest s (6+(Lib.itoa n).length) (COMMA.data.toList++(Lib.itoa m++[41])):=r1.step
  have r3:Rest s (6+(Lib.itoa n).length+2) (Lib.itoa m++[41]):=r2.step
  have n2:=r3.num (sep_of rfl) hm
  have r4:Rest s (6+(Lib.itoa n).length+2+(Lib.itoa m).length) [41]:=r3.step
  have hz:=r4.size
  have s0:stB s 0 QUO=false:=r0.no (w:=QUO) (c:=34) (r:=[]) rfl (by decide)
  have s1:stB s 0 LBR=false:=r0.no (w:=LBR) (c:=91) (r:=[]) rfl (by decide)
  have s2:stB s 0 RNG=true:=r0.yes
  have sE:stB s 0 ERR=false:=r0.no (w:=ERR) (c:=101) rfl (by decide)
  have sC:stB s ((6+(Lib.itoa n).length:Nat):Int) COMMA=true:=r2.yes
  have sP:stB s ((6+(Lib.itoa n).length+2+(Lib.itoa m).length:Nat):Int) RPA=true:=Rest.yes (w:=RPA) (q:=[]) r4
  have i1:intP s 6=(n,((6+(Lib.itoa n).length:Nat):Int)):=n1.1
  have e1:(((6+(Lib.itoa n).length:Nat):Int))+2=((6+(Lib.itoa n).length+2:Nat):Int):=by omega
  have e2:(((6+(Lib.itoa n).length+2+(Lib.itoa m).length:Nat):Int))+1=(s.size:Int):=by rw [hz];simp
  refine ⟨?_,?_⟩
  · show parP _ s 0=_
    rw [par_3 (y:=6) rfl s0 s1 s2]
    rw [strP_5 (y:=((6+(Lib.itoa n).length+2:Nat):Int)) (by rw [i1];exact e1.symm) (by rw [i1];exact neg_no _) (by rw [i1];exact notT sC) (by rw [n2.1];exact neg_no _) (by rw [n2.1];exact notT sP),i1,n2.1]
    show (vStr n m,_)=_
    rw [e2]
  · have j1:numIR s 6 true=(vNum n,((6+(Lib.itoa n).length:Nat):Int),true):=n1.2 true
    have ak:andK s ((6+(Lib.itoa n).length:Nat):Int) true COMMA=((6+(Lib.itoa n).length+2:Nat):Int):=by
      rw [← andK_T rfl,tk_one sC];exact e1
    have ab:andB s ((6+(Lib.itoa n).length:Nat):Int) true COMMA=true:=by rw [← andB_1 rfl];exact sC
    have bk:andK s ((6+(Lib.itoa n).length+2+(Lib.itoa m).length:Nat):Int) true RPA=(s.size:Int):=by
      rw [← andK_T rfl,tk_one sP];exact e2
    have bb:andB s ((6+(Lib.itoa n).length+2+(Lib.itoa m).length:Nat):Int) true RPA=true:=by rw [← andB_1 rfl];exact sP
    unfold wholeI
    rw [if_neg (by rw [sE];decide),if_pos s2,j1]
    show (vStr (iAt (vNum n) 1) (iAt (numIR s (andK s ((6+(Lib.itoa n).length:Nat):Int) true COMMA) (andB s ((6+(Lib.itoa n).length:Nat):Int) true COMMA)).1 1),_,_)=_
    rw [ak,ab,n2.2 true]
    show (vStr n m,andK s ((6+(Lib.itoa n).length+2+(Lib.itoa m).length:Nat):Int) true RPA,andB s ((6+(Lib.itoa n).length+2+(Lib.itoa m).length:Nat):Int) true RPA)=_
    rw [bk,bb]
theorem errC_back {n:Int} (h1:1≤n) (h8:n≤8):errC (errB n)=n:=by
  have:∀ k:Nat,k < 9→1≤k→errC (errB (k:Int))=(k:Int):=by decide +kernel
  have:=this n.toNat (by omega) (by omega)
  rwa [show ((n.toNat:Nat):Int)=n by omega] at this
theorem fB_err (n:Int):fB (vErr n)=ERR.data.toList++(errB n).data.toList:=by
  show (fmtV (vErr n)).data.toList=_
  rw [← fm6 (n:=n) (st:=0) (tx:=ES) (l4:=[]) (l5:=[]) (l6:=[])]
  simp
theorem top_err {n:Int} (h1:1≤n) (h8:n≤8) (hs:s.data.toList=fB (vErr n)) (f:Nat):parF s (f+1) 0=(vErr n,(s.size:Int))∧wholeI s=(vErr n,(s.size:Int),true):=by
  rw [fB_err] at hs
  have r0:Rest s 0 (ERR.data.toList++(errB n).data.toList):=Rest.whole hs
  have r1:Rest s 6 ((errB n).data.toList):=r0.step
  have s0:stB s 0 QUO=false:=r0.no (w:=QUO) (c:=34) (r:=[]) rfl (by decide)
  have s1:stB s 0 LBR=false:=r0.no (w:=LBR) (c:=91) (r:=[]) rfl (by decide)
  have s2:stB s 0 RNG=false:=r0.no (w:=RNG) (c:=114) rfl (by decide)
  have s3:stB s 0 TBO=false:=r0.no (w:=TBO) (c:=116) rfl (by decide)
  have sE:stB s 0 ERR=true:=r0.yes
  have ht:s.extract 6 s.size=errB n:=by
    apply ByteArray.ext
    apply Array.ext'
    rw [ext_drop,r1.2]
  refine ⟨?_,?_⟩
  · show parP _ s 0=_
    rw [par_5 (y:=6) rfl s0 s1 s2 s3 sE,show s.extract (6:Int).toNat s.size=s.extract 6 s.size from rfl,ht,errC_back h1 h8]
  · unfold wholeI
    rw [if_pos sE,ht,errI_eq,errC_back h1 h8]
end Go.Proofs.YtkpnfbdoaljkpaaGreatDoor.Ab
namespace Go.Proofs.YtkpnfbdoaljkpaaGreatDoor.Ab
open Go.RowKit
set_option linter.unusedVariables false
variable {s:ByteArray}
def cellsV (v:List D):List D:=vLst ((lst v).map fun y=>vNum (iAt y 1))
theorem rowOf_cells (v:List D):rowOfV (cellsV v)=rowOfV v:=by
  show [D.l (((lst v).map fun y=>vNum (iAt y 1)).map fun y=>[.i (iAt y 1)]),.l []]=_
  rw [List.map_map]
  rfl
theorem fB_cells (v:List D):fB (cellsV v)=(rowT (rowOfV v)).data.toList:=by
  unfold cellsV rowT
  rw [fB_lst,brk_list]
  show 91 :: (Lib.join (((lst v).map fun y=>vNum (iAt y 1)).map fB) [44,32]++[93])=91 :: (Lib.join ((numTs ((lst v).map fun y=>[D.i (iAt y 1)])).map (·.data.toList)) [44,32]++[93])
  congr 3
  unfold numTs
  rw [List.map_map,List.map_map,List.map_map]
  refine List.map_congr_left fun y _=>?_
  show fB (vNum (iAt y 1))=(itoaB (iAt y 1)).data.toList
  rw [fB_num,itoaB_list]
theorem cells_good {n:Nat} {v:List D} (hn:n≤4) (h:rowOk n (rowOfV v)=true) (m:Nat):GS s (m+2) (cellsV v)∧GI s (m+1) (cellsV v)∧Hd (cellsV v):=by
  obtain ⟨h1,_,h3⟩:=row_at_ h
  have h1:((lst v).map fun y=>[D.i (iAt y 1)]).length=n:=h1
  rw [List.length_map] at h1
  have hr:∀ y ∈ lst v,inR (iAt y 1) (-1000000000) 1000000000=true:=by
    intro y hy
    obtain ⟨i,hi,rfl⟩:=mem_at [] hy
    have:=h3 i (by show i < ((lst v).map fun y=>[D.i (iAt y 1)]).length;rw [List.length_map];exact hi)
    have e:rAt ((lst v).map fun y=>[D.i (iAt y 1)]) i=[D.i (iAt ((lst v).getD i []) 1)]:=by
      simp [rAt,List.getD_eq_getElem?_getD,List.getElem?_eq_getElem hi]
    have this:inR (iAt (rAt ((lst v).map fun y=>[D.i (iAt y 1)]) i) 0) (-1000000000) 1000000000=true:=this
    rw [e] at this
    exact this
  have hl:((lst v).map fun y=>vNum (iAt y 1)).length≤64:=by rw [List.length_map];omega
  have g1:∀ x ∈ (lst v).map fun y=>vNum (iAt y 1),GS s (m+1) x:=by
    intro x hx
    obtain ⟨y,hy,rfl⟩:=List.mem_map.1 hx
    exact num_GS (hr y hy) m
  have g2:∀ x ∈ (lst v).map fun y=>vNum (iAt y 1),GI s m x:=by
    intro x hx
    obtain ⟨y,hy,rfl⟩:=List.mem_map.1 hx
    exact num_GI (hr y hy) m
  have g3:∀ x ∈ (lst v).map fun y=>vNum (iAt y 1),Hd x:=by
    intro x hx
    obtain ⟨y,hy,rfl⟩:=List.mem_map.1 hx
    exact hd_num _
  exact ⟨lst_GS hl g1 g3,lst_GI g2 g3,⟨91,_,fB_lst _,by decide⟩⟩
theorem name_at {t:ByteArray} (h:nameOk t=true):∀ b ∈ t.data.toList,b ≠ 32∧((b.toNat:Int) != 34)=true:=by
  intro b hb
  unfold nameOk nameSh at h
  rw [Bool.and_eq_true,Bool.and_eq_true,allB_iff] at h
  obtain ⟨i,hi,rfl⟩:=mem_at 0 hb
  have hl:t.data.toList.length=t.size:=Array.length_toList
  have:=h.1.1 i (by omega)
  have e:bAt t i=((t.data.toList.getD i 0).toNat:Int):=by
    show ((t.data.getD i 0).toNat:Int)=_
    rw [Array.getD_eq_getD_getElem?,List.getD_eq_getElem?_getD,Array.getElem?_toList]
  unfold wordB letB digB at this
  rw [e] at this
  simp only [Bool.or_eq_true,Bool.and_eq_true,decide_eq_true_eq] at this
  refine ⟨fun h32=>?_,?_⟩
  · rw [h32] at this
    have e2:((32:UInt8).toNat:Int)=32:=rfl
    omega
  · rw [bne_iff_ne]
    omega
theorem join_bytes {P:UInt8→Prop} (hP:P 32):∀ (ws:List (List UInt8)),(∀ w ∈ ws, ∀ b ∈ w,P b)→∀ b ∈ Lib.join ws [32],P b
  | [],_,b,hb=>by rw [Lib.join_nil] at hb;exact absurd hb (List.not_mem_nil)
  | [w],h,b,hb=>by rw [Lib.join_one] at hb;exact h w (List.mem_singleton_self _) b hb
  | w :: x :: r,h,b,hb=>by
    rw [join_two] at hb
    rcases List.mem_append.1 hb with h1|h1
    · exact h w (List.mem_cons_self ..) b h1
    · rcases List.mem_append.1 h1 with h2|h2
      · rw [List.mem_singleton.1 h2];exact hP
      · exact join_bytes hP (x :: r) (fun w hw=>h w (List.mem_cons_of_mem _ hw)) b h2
theorem words_join {c:List ByteArray} (hne:c ≠ []) (h:∀ t ∈ c, ∀ b ∈ t.data.toList,b ≠ 32):wordsB (joinT c ⟨#[32]⟩)=c:=by
  unfold wordsB joinT
  show (words32 (Lib.join (c.map (·.data.toList)) [32])).map _=c
  rw [words32_join (by simpa using hne) (by
    intro w hw
    obtain ⟨t,ht,rfl⟩:=List.mem_map.1 hw
    exact h t ht),List.map_map]
  conv=>rhs;rw [← List.map_id c]
  refine List.map_congr_left fun t _=>?_
  apply ByteArray.ext
  apply Array.ext'
  simp
theorem fB_tbl (c:List ByteArray) (l:List (List D)):fB (vTbl (strRows c) (l.map rowOfV))=TBO.data.toList++(34 :: ((joinT c ⟨#[32]⟩).data.toList++34 :: (COMMA.data.toList++(91 :: (Lib.join ((l.map cellsV).map fB) [44,32]++93 :: [41]))))):=by
  show (fmtV (vTbl (strRows c) (l.map rowOfV))).data.toList=_
  rw [← fm5 (n:=0) (st:=0) (tx:=ES) (l4:=[]) (l5:=strRows c) (l6:=l.map rowOfV),strsOf_rows]
  have e:(rowsT (l.map rowOfV)).data.toList=91 :: (Lib.join ((l.map cellsV).map fB) [44,32]++[93]):=by
    unfold rowsT
    rw [brk_list,List.map_map,List.map_map,List.map_map]
    congr 3
    refine List.map_congr_left fun v _=>?_
    exact (fB_cells v).symm
  simp only [ByteArray.data_append,Array.toList_append,e]
  simp
theorem top_tbl {c:List ByteArray} {l:List (List D)} (ho:okV (vTbl (strRows c) (l.map rowOfV))=true) (hs:s.data.toList=fB (vTbl (strRows c) (l.map rowOfV))) (f:Nat) :
    parF s (f+3) 0=(vTbl (strRows c) (l.map rowOfV),(s.size:Int))∧wholeI s=(vTbl (strRows c) (l.map rowOfV),(s.size:Int),true):=by
  obtain ⟨tc,t12,tr⟩:=tblV_at (okV_tbl ho rfl).1
  have tc:colsOk (strRows c)=true:=tc
  have t12:(l.map rowOfV).length≤12:=t12
  have tr:∀ i,i < (l.map rowOfV).length→rowOk (strRows c).length (rAt (l.map rowOfV) i)=true:=tr
  obtain ⟨c1,c4,cn,_⟩:=cols_at tc
  rw [strRows_len] at c1 c4 cn
  rw [List.length_map] at t12
  have cne:c ≠ []:=fun e=>by rw [e] at c1;exact absurd c1 (by decide)
  have cname:∀ t ∈ c,nameOk t=true:=by
    intro t ht
    obtain ⟨i,hi,he⟩:=List.mem_iff_getElem.1 ht
    have:=cn i hi
    have e:tAt (strRows c) i=t:=by
      simp [tAt,strRows,List.getD_eq_getElem?_getD,List.getElem?_eq_getElem hi,D.str,he]
    rwa [e] at this
  have hw:wordsB (joinT c ⟨#[32]⟩)=c:=words_join cne fun t ht b hb=>(name_at (cname t ht) b hb).1
  have hq:∀ b ∈ (joinT c ⟨#[32]⟩).data.toList,((b.toNat:Int) != 34)=true:=by
    have:(joinT c ⟨#[32]⟩).data.toList=Lib.join (c.map (·.data.toList)) [32]:=by unfold joinT;simp
    rw [this]
    refine join_bytes (P:=fun b=>((b.toNat:Int) != 34)=true) rfl _ fun w hw b hb=>?_
    obtain ⟨t,ht,rfl⟩:=List.mem_map.1 hw
    exact (name_at (cname t ht) b hb).2
  have hrow:∀ v ∈ l,rowOk c.length (rowOfV v)=true:=by
    intro v hv
    obtain ⟨i,hi,rfl⟩:=mem_at [] hv
    have:=tr i (by rw [List.length_map];exact hi)
    have e:rAt (l.map rowOfV) i=rowOfV (l.getD i []):=by
      simp [rAt,List.getD_eq_getElem?_getD,List.getElem?_eq_getElem hi]
    rwa [e,strRows_len] at this
  have gS:∀ x ∈ l.map cellsV,GS s (f+2) x:=by
    intro x hx
    obtain ⟨v,hv,rfl⟩:=List.mem_map.1 hx
    exact (cells_good c4 (hrow v hv) f).1
  have gI:∀ x ∈ l.map cellsV,GI s 1 x:=by
    intro x hx
    obtain ⟨v,hv,rfl⟩:=List.mem_map.1 hx
    exact (cells_good c4 (hrow v hv) 0).2.1
  have gH:∀ x ∈ l.map cellsV,Hd x:=by
    intro x hx
    obtain ⟨v,hv,rfl⟩:=List.mem_map.1 hx
    exact (cells_good (s:=s) c4 (hrow v hv) 0).2.2
  have hmap:(l.map cellsV).map rowOfV=l.map rowOfV:=by
    rw [List.map_map]
    exact List.map_congr_left fun v _=>rowOf_cells v
  rw [fB_tbl] at hs
  generalize ht:joinT c ⟨#[32]⟩=t at *
  generalize hJ:Lib.join ((l.map cellsV).map fB) [44,32]=J at *
  have r0:Rest s 0 (TBO.data.toList++(34 :: (t.data.toList++34 :: (COMMA.data.toList++(91 :: (J++93 :: [41])))))):=Rest.whole hs
  have r1:Rest s 6 (34 :: (t.data.toList++34 :: (COMMA.data.toList++(91 :: (J++93 :: [41]))))):=r0.step
  have q1:=r1.quo hq
  have hl:t.data.toList.length=t.size:=Array.length_toList
  have r2:Rest s (6+2+t.size) (COMMA.data.toList++(91 :: (J++93 :: [41]))):=by
    have a:Rest s 7 (t.data.toList++34 :: (COMMA.data.toList++(91 :: (J++93 :: [41])))):=Rest.step (w:=[34]) r1
    have b:Rest s (7+t.data.toList.length) (34 :: (COMMA.data.toList++(91 :: (J++93 :: [41])))):=a.step
    have d:Rest s (7+t.data.toList.length+1) (COMMA.data.toList++(91 :: (J++93 :: [41]))):=Rest.step (w:=[34]) b
    rw [hl] at d
    rwa [show 6+2+t.size=7+t.size+1 by omega]
  have r3:Rest s (6+2+t.size+2) (91 :: (J++93 :: [41])):=r2.step
  have r4:Rest s (6+2+t.size+3) (J++93 :: [41]):=Rest.step (w:=[91]) r3
  have r5:Rest s (6+2+t.size+3+J.length+1) [41]:=by
    have a:Rest s (6+2+t.size+3+J.length) (93 :: [41]):=r4.step
    exact Rest.step (w:=[93]) a
  have hz:=r5.size
  have s0:stB s 0 QUO=false:=r0.no (w:=QUO) (c:=34) (r:=[]) rfl (by decide)
  have s1:stB s 0 LBR=false:=r0.no (w:=LBR) (c:=91) (r:=[]) rfl (by decide)
  have s2:stB s 0 RNG=false:=r0.no (w:=RNG) (c:=114) rfl (by decide)
  have sE:stB s 0 ERR=false:=r0.no (w:=ERR) (c:=101) rfl (by decide)
  have s3:stB s 0 TBO=true:=r0.yes
  have sL:stB s ((6+2+t.size:Nat):Int) CLB=true:=Rest.yes (w:=CLB) (q:=J++93 :: [41]) r2
  have sC:stB s ((6+2+t.size:Nat):Int) COMMA=true:=r2.yes
  have sP:stB s ((6+2+t.size+3+J.length+1:Nat):Int) RPA=true:=Rest.yes (w:=RPA) (q:=[]) r5
  have q2:quoP s 6=(t,((6+2+t.size:Nat):Int)):=q1.2
  have e1:(((6+2+t.size:Nat):Int))+3=((6+2+t.size+3:Nat):Int):=by omega
  have e2:(((6+2+t.size+3+J.length+1:Nat):Int))+1=(s.size:Int):=by rw [hz];simp
  have lS:itmP (parF s (f+2)) s ((6+2+t.size+3:Nat):Int)=(l.map cellsV,((6+2+t.size+3+J.length+1:Nat):Int)):=by
    have:=list_S (n:=f+2) (l:=l.map cellsV) (by rw [List.length_map];omega) gS gH (k:=6+2+t.size+3) (q:=[41]) (by rw [hJ];exact r4)
    rw [hJ] at this
    exact this
  have lI:valI s 2 ((6+2+t.size+2:Nat):Int) true=(vLst (l.map cellsV),((6+2+t.size+3+J.length+1:Nat):Int),true):=by
    have:=list_I (d:=1) (l:=l.map cellsV) gI gH (k:=6+2+t.size+2) (q:=[41]) (by rw [hJ];exact r3) (by
      rw [List.length_map]
      omega)
    rw [hJ] at this
    rw [this]
    congr 2
    omega
  refine ⟨?_,?_⟩
  · show parP (itmP (parF s (f+2)) s) s 0=_
    rw [par_4 (y:=6) rfl s0 s1 s2 s3]
    rw [tab_5 (y:=((6+2+t.size+3:Nat):Int)) (by rw [q2];exact e1.symm) (by rw [q2];exact neg_no _) (by rw [q2];exact notT sL) (by rw [lS];exact neg_no _) (by rw [lS];exact notT sP),lS,q2]
    show (vTbl (strRows (wordsB t)) ((l.map cellsV).map rowOfV),_)=_
    rw [hw,hmap,e2]
  · have v0:valI s 0 6 true=(vTxt t,((6+2+t.size:Nat):Int),true):=by
      rw [vI_t2 (k:=6) q1.1 (by rw [q2];show ¬ ((6+2+t.size:Nat):Int) < 0;omega) 0,q2]
    have ak:andK s ((6+2+t.size:Nat):Int) true COMMA=((6+2+t.size+2:Nat):Int):=by
      rw [← andK_T rfl,tk_one sC]
      show (((6+2+t.size:Nat):Int))+2=_
      omega
    have ab:andB s ((6+2+t.size:Nat):Int) true COMMA=true:=by rw [← andB_1 rfl];exact sC
    have bk:andK s ((6+2+t.size+3+J.length+1:Nat):Int) true RPA=(s.size:Int):=by
      rw [← andK_T rfl,tk_one sP];exact e2
    have bb:andB s ((6+2+t.size+3+J.length+1:Nat):Int) true RPA=true:=by rw [← andB_1 rfl];exact sP
    have hW:=W_tbo (num:=numIR) (va:=fun s k b=>valI s 0 k b) (vb:=fun s k b=>valI s 2 k b) (vc:=fun s k b=>valI s 3 k b) (s:=s) (P:=6) rfl sE s2 s3
    rw [← wholeG_eq,hW]
    have sq:seqR s ((fun s k b=>valI s 0 k b) s 6 true) ((fun s k b=>valI s 2 k b) s)=(vLst (l.map cellsV),((6+2+t.size+3+J.length+1:Nat):Int),true):=by
      show seqR s (valI s 0 6 true) (fun k b=>valI s 2 k b)=_
      rw [v0]
      show valI s 2 (andK s ((6+2+t.size:Nat):Int) true COMMA) (andB s ((6+2+t.size:Nat):Int) true COMMA)=_
      rw [ak,ab,lI]
    rw [sq]
    show (vTbl (strRows (wordsB ((valI s 0 6 true).1.getD 3 default).str)) ((l.map cellsV).map rowOfV),andK s ((6+2+t.size+3+J.length+1:Nat):Int) true RPA,andB s ((6+2+t.size+3+J.length+1:Nat):Int) true RPA)=_
    rw [bk,bb,hmap,v0]
    show (vTbl (strRows (wordsB t)) _,_,_)=_
    rw [hw]
theorem top_back {v:List D} (hc:Can v) (ho:okV v=true) (hs:s.data.toList=fB v) {n:Nat} (hn:5≤n):parF s n 0=(v,(s.size:Int))∧wholeI s=(v,(s.size:Int),true):=by
  obtain ⟨f,rfl⟩:∃ f,n=f+3:=⟨n - 3,by omega⟩
  cases hc with
  | nil=>exact absurd (okV_kind ho) (by decide)
  | num n=>exact top_el (.num n) ho rfl hs hn
  | txt t=>exact top_el (.txt t) ho rfl hs hn
  | lst l h=>exact top_el (.lst l h) ho rfl hs hn
  | str n m=>exact top_str (okV_str ho rfl).1 (okV_str ho rfl).2 hs (f+2)
  | tbl c l=>exact top_tbl ho hs f
  | err n=>exact top_err (okV_err ho rfl).1 (okV_err ho rfl).2 hs (f+2)
theorem pvOf_T {v:List D} {e:Bool} {s:ByteArray} (h:(pvOf v e s).2=true):e=true∧okV v=true∧s.data.toList=fB v∧pvOf v e s=(v,true):=by
  unfold pvOf at h ⊢
  split at h
  · rename_i hc
    rw [if_pos hc]
    have ho:okV v=true:=by
      cases hv:okV v with
      | true=>rfl
      | false =>
        have:=hc.2.1
        rw [fmtO_no hv,nil_toList] at this
        exact absurd this.symm hc.2.2
    have:=hc.2.1
    rw [fmtO_yes ho,str_inj] at this
    exact ⟨hc.1,ho,by rw [← this],rfl⟩
  · cases h
theorem pvOf_F {v:List D} {e:Bool} {s:ByteArray} (h:(pvOf v e s).2=false):pvOf v e s=(vNil,false):=by
  unfold pvOf at h ⊢
  split at h
  · cases h
  · rename_i hc;rw [if_neg hc]
theorem pvOf_yes {v:List D} (ho:okV v=true) (hs:s.data.toList=fB v):pvOf v true s=(v,true):=by
  have e:fmtV v=s:=by
    apply ByteArray.ext
    apply Array.ext'
    exact hs.symm
  have hne:s.toList ≠ []:=by
    intro h
    rw [← nil_toList,str_inj] at h
    subst h
    have h0:fB v=[]:=hs.symm
    have h2:∃ b r,fB v=b :: r:=by
      rcases okV_kind ho with hk|hk|hk|hk|hk|hk
      all_goals
        show ∃ b r,(fmtV v).data.toList=b :: r
        rw [fmtV_eq]
        unfold fmtStep
      · rw [if_pos hk,itoaB_list];obtain ⟨b,r,h,_⟩:=itoa_head (iAt v 1);exact ⟨b,r,h⟩
      · rw [if_neg (by omega),if_pos hk];exact ⟨34,(v.getD 3 default).str.data.toList++[34],by simp⟩
      · rw [if_neg (by omega),if_neg (by omega),if_neg (by omega),if_neg (by omega),if_neg (by omega),brk_list];exact ⟨_,_,rfl⟩
      · rw [if_neg (by omega),if_neg (by omega),if_pos hk];simp
      · rw [if_neg (by omega),if_neg (by omega),if_neg (by omega),if_pos hk];simp
      · rw [if_neg (by omega),if_neg (by omega),if_neg (by omega),if_neg (by omega),if_pos hk];simp
    obtain ⟨b,r,h3⟩:=h2
    rw [h0] at h3
    cases h3
  unfold pvOf
  rw [if_pos ⟨rfl,by rw [fmtO_yes ho,e],hne⟩]
theorem pv_same {n:Nat} (hn:5≤n) (s:ByteArray):pvS n s=pvI s:=by
  cases hS:(pvS n s).2 with
  | true =>
    obtain ⟨_,ho,hs,he⟩:=pvOf_T hS
    have:=(top_back (can_par n 0) ho hs hn).2
    unfold pvI
    rw [this]
    show pvS n s=pvOf (parF s n 0).1 (true && (s.size:Int) == (s.size:Int)) s
    rw [show (true && (s.size:Int) == (s.size:Int))=true by simp,pvOf_yes ho hs]
    exact he
  | false =>
    have h1:=pvOf_F hS
    cases hI:(pvI s).2 with
    | true =>
      obtain ⟨_,ho,hs,he⟩:=pvOf_T hI
      have:=(top_back can_whole ho hs hn).1
      have hc:pvS n s=pvOf (wholeI s).1 true s:=by
        unfold pvS
        rw [this]
        show pvOf (wholeI s).1 ((s.size:Int) == (s.size:Int)) s=_
        rw [beq_self_eq_true]
      rw [hc,pvOf_yes ho hs] at hS
      cases hS
    | false =>
      have h2:=pvOf_F hI
      exact h1.trans h2.symm
end Go.Proofs.YtkpnfbdoaljkpaaGreatDoor.Ab
