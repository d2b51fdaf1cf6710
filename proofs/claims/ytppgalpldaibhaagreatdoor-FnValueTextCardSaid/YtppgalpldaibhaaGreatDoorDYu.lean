/- The program's reading of values, in plain Lean: where it ends, and how much it reads. No program in sight. Descriptions of the program's readers of values; the library's searches as descriptions. No program in sight. -/
import Derived.Test.YtppgalpldaibhaaGreatDoorDYo
namespace Go.Proofs.YtppgalpldaibhaaGreatDoor.Ab
open Go.RowKit
set_option linter.unusedVariables false
abbrev Rd3:=List D × Int × Bool
def mdB (b:Int):Bool:=b == 45 || digB b
def numIE (s:ByteArray) (k:Int):Nat:=runB mdB s k.toNat
noncomputable abbrev prsI (s:ByteArray) (k:Int):Int × Bool:=prs (-999999999999) 999999999999 (s.extract k.toNat (numIE s k))
noncomputable def numIR (s:ByteArray) (k:Int) (b:Bool):Rd3:=(vNum (prsI s k).1,(numIE s k:Int),b && (prsI s k).2)
def tkK (s:ByteArray) (k:Int) (w:ByteArray):Int:=if stB s k w=true then k+(w.size:Int) else k
def andK (s:ByteArray) (k:Int) (b:Bool) (w:ByteArray):Int:=if b=true then tkK s k w else k
def andB (s:ByteArray) (k:Int) (b:Bool) (w:ByteArray):Bool:=b && stB s k w
def itemsI (val:Int→Bool→Rd3) (s:ByteArray):Nat→Int→Bool→List (List D)→List (List D) × Int × Bool
  | 0,k,b,out=>(out,k,b)
  | m+1,k,b,out=>if b=false then (out,k,b) else
    if stB s (val k b).2.1 RBR=true then (out++[(val k b).1],(val k b).2.1+1,(val k b).2.2) else
    itemsI val s m (andK s (val k b).2.1 (val k b).2.2 COMMA) (andB s (val k b).2.1 (val k b).2.2 COMMA) (out++[(val k b).1])
noncomputable def valI (s:ByteArray):Nat→Int→Bool→Rd3
  | 0,k,b=>if stB s k QUO=true then (if (quoP s k).2 < 0 then (vNil,k+1,false) else (vTxt (quoP s k).1,(quoP s k).2,b)) else numIR s k b
  | d+1,k,b=>if stB s k QUO=true then (if (quoP s k).2 < 0 then (vNil,k+1,false) else (vTxt (quoP s k).1,(quoP s k).2,b)) else
    if stB s k LBR=true then (if stB s (k+1) RBR=true then (vLst [],k+1+1,b) else
      (vLst (itemsI (valI s d) s (s.size+3) (k+1) b []).1,(itemsI (valI s d) s (s.size+3) (k+1) b []).2)) else numIR s k b
def errI (t:ByteArray):Int:=idxT (strRows errs.tail) t+1
def PosI (s:ByteArray) (k:Int) (b:Bool) (d:Nat) (r:Rd3):Prop :=
  k≤r.2.1∧r.2.1≤s.size∧(r.2.2=true→b=true∧k < r.2.1∧(wRow r.1:Int)≤2 * (r.2.1 - k))∧(wRow r.1:Int)≤2 * (r.2.1 - k)+d+1
theorem numI_pos {s:ByteArray} {k:Int} (b:Bool) (d:Nat) (h0:0≤k) (h:k≤s.size):PosI s k b d (numIR s k b):=by
  have h1:k.toNat≤numIE s k:=runB_ge
  have h2:numIE s k≤s.size:=runB_le (by omega)
  have e0:wRow (vNum (prsI s k).1)=0:=by rw [w7];rfl
  refine ⟨by show k≤(numIE s k:Int);omega,by show (numIE s k:Int)≤_;omega,fun hb=>?_,by show ((wRow (vNum (prsI s k).1):Nat):Int)≤2 * ((numIE s k:Int) - k)+d+1;rw [e0];omega⟩
  have hb' : (b && (prsI s k).2)=true:=hb
  rw [Bool.and_eq_true] at hb'
  have hp:=prs_ok hb'.2
  have h3:(s.extract k.toNat (numIE s k)).size ≠ 0:=fun h=>itoaB_ne (prsI s k).1 (by rw [hp];exact h)
  have h4:(s.extract k.toNat (numIE s k)).size=min (numIE s k) s.size - k.toNat:=ByteArray.size_extract
  refine ⟨hb'.1,by show k < (numIE s k:Int);omega,?_⟩
  show ((wRow (vNum (prsI s k).1):Nat):Int)≤2 * ((numIE s k:Int) - k)
  rw [e0];omega
theorem txtI_pos {s:ByteArray} {k:Int} (b:Bool) (d:Nat) (h0:0≤k) (h:k≤s.size) (hq:stB s k QUO=true):PosI s k b d (if (quoP s k).2 < 0 then (vNil,k+1,false) else (vTxt (quoP s k).1,(quoP s k).2,b)):=by
  have hs:=stB_le hq
  have e:(QUO.size:Int)=1:=rfl
  split
  · have e0:wRow vNil=0:=rfl
    exact ⟨by show k≤k+1;omega,by show k+1≤_;omega,fun h=>(by cases h),by show ((wRow vNil:Nat):Int)≤2 * (k+1 - k)+d+1;rw [e0];omega⟩
  · rename_i hn
    rcases quoP_pos h0 h with ⟨h1,h2⟩|⟨h1,h2,h3⟩
    · omega
    · have hw:((wRow (vTxt (quoP s k).1):Nat):Int)≤2 * ((quoP s k).2 - k):=by
        rw [w7]
        simp only [wRows,List.length_nil]
        omega
      exact ⟨by show k≤(quoP s k).2;omega,h2,fun hb=>⟨hb,by show k < (quoP s k).2;omega,hw⟩,by show ((wRow (vTxt (quoP s k).1):Nat):Int)≤2 * ((quoP s k).2 - k)+d+1;omega⟩
theorem tkK_le {s w:ByteArray} {k:Int} (h:k≤s.size):k≤tkK s k w∧tkK s k w≤s.size:=by
  unfold tkK
  split
  · rename_i hs;have:=stB_le hs;omega
  · omega
theorem andK_le {s w:ByteArray} {k:Int} {b:Bool} (h:k≤s.size):k≤andK s k b w∧andK s k b w≤s.size:=by
  unfold andK
  split
  · exact tkK_le h
  · omega
def ItI (s:ByteArray) (k0 k:Int) (b:Bool) (d:Nat) (out:List (List D)):Prop :=
  k0≤k∧k≤s.size∧(b=true→((out.length+wRows out:Nat):Int)≤2 * (k - k0))∧((out.length+wRows out:Nat):Int)≤2 * (k - k0)+d+2
theorem app_w (out:List (List D)) (r:List D):(((out++[r]).length+wRows (out++[r]):Nat):Int)=((out.length+wRows out:Nat):Int)+1+(wRow r:Int):=by
  rw [List.length_append,wRows_append]
  simp only [List.length_cons,List.length_nil,wRows]
  omega
theorem itI_in {s:ByteArray} {k0 k:Int} {d:Nat} {out:List (List D)} {r:Rd3} (h:ItI s k0 k true d out) (hr:PosI s k true d r) (hs:stB s r.2.1 RBR=true):ItI s k0 (r.2.1+1) r.2.2 d (out++[r.1]):=by
  have b:=stB_le hs
  have e:(RBR.size:Int)=1:=rfl
  obtain ⟨a1,a2,a3,a4⟩:=h
  obtain ⟨b1,b2,b3,b4⟩:=hr
  have a3:=a3 rfl
  refine ⟨by omega,by omega,fun hb=>?_,?_⟩
  · have b3:=b3 hb
    rw [app_w];omega
  · rw [app_w];omega
theorem itI_next {s:ByteArray} {k0 k:Int} {d:Nat} {out:List (List D)} {r:Rd3} (h:ItI s k0 k true d out) (hr:PosI s k true d r):ItI s k0 (andK s r.2.1 r.2.2 COMMA) (andB s r.2.1 r.2.2 COMMA) d (out++[r.1]):=by
  obtain ⟨a1,a2,a3,a4⟩:=h
  obtain ⟨b1,b2,b3,b4⟩:=hr
  have a3:=a3 rfl
  have c:=andK_le (s:=s) (k:=r.2.1) (b:=r.2.2) (w:=COMMA) b2
  refine ⟨by omega,c.2,fun hb=>?_,?_⟩
  · unfold andB at hb
    rw [Bool.and_eq_true] at hb
    have b3:=b3 hb.1
    have e:(COMMA.size:Int)=2:=rfl
    have hk:andK s r.2.1 r.2.2 COMMA=r.2.1+2:=by unfold andK tkK;rw [if_pos hb.1,if_pos hb.2,e]
    rw [app_w,hk];omega
  · rw [app_w];omega
theorem andB_T {s w:ByteArray} {k:Int} {b:Bool} (h:andB s k b w=true):b=true∧stB s k w=true∧andK s k b w=k+(w.size:Int):=by
  unfold andB at h
  rw [Bool.and_eq_true] at h
  exact ⟨h.1,h.2,by unfold andK tkK;rw [if_pos h.1,if_pos h.2]⟩
theorem itemsI_pos {val:Int→Bool→Rd3} {s:ByteArray} {k0:Int} {d:Nat} (hv:∀ k,k0≤k→k≤s.size→PosI s k true d (val k true)):∀ (m:Nat) (k:Int) (b:Bool) (out:List (List D)),ItI s k0 k b d out →
    ItI s k0 (itemsI val s m k b out).2.1 (itemsI val s m k b out).2.2 d (itemsI val s m k b out).1∧((itemsI val s m k b out).2.2=true→b=true)
  | 0,_,_,_,h=>⟨h,fun h=>h⟩
  | m+1,k,false,out,h=>⟨h,fun h=>h⟩
  | m+1,k,true,out,h=>by
    have hr:=hv k h.1 h.2.1
    rw [itemsI,if_neg (by decide)]
    split
    · rename_i hs
      exact ⟨itI_in h hr hs,fun _=>rfl⟩
    · have:=itemsI_pos hv m _ _ _ (itI_next h hr)
      exact ⟨this.1,fun _=>rfl⟩
theorem valI_pos (s:ByteArray):∀ (d:Nat) (k:Int) (b:Bool),0≤k→k≤s.size→PosI s k b d (valI s d k b)
  | 0,k,b,h0,h=>by
    unfold valI
    split
    · rename_i hq;exact txtI_pos b 0 h0 h hq
    · exact numI_pos b 0 h0 h
  | d + 1, k,b,h0,h=>by
    unfold valI
    split
    · rename_i hq;exact txtI_pos b (d+1) h0 h hq
    split
    · rename_i _ hl
      have hb:=stB_le hl
      have e:(LBR.size:Int)=1:=rfl
      split
      · rename_i hr
        have hb2:=stB_le hr
        have e2:(RBR.size:Int)=1:=rfl
        have e0:wRow (vLst [])=0:=rfl
        exact ⟨by show k≤k+1+1;omega,by show k+1+1≤_;omega,fun hb=>⟨hb,by show k < k+1+1;omega,by show ((wRow (vLst []):Nat):Int)≤2 * (k+1+1 - k);rw [e0];omega⟩,by show ((wRow (vLst []):Nat):Int)≤2 * (k+1+1 - k)+((d+1:Nat):Int)+1;rw [e0];omega⟩
      · have hi:=itemsI_pos (val:=valI s d) (s:=s) (k0:=k+1) (d:=d) (fun j hj hs=>valI_pos s d j true (by omega) hs) (s.size+3) (k+1) b [] ⟨by omega,by omega,fun _=>by show ((0+0:Nat):Int)≤_;omega,by show ((0+0:Nat):Int)≤_;omega⟩
        generalize itemsI (valI s d) s (s.size+3) (k+1) b []=r at *
        obtain ⟨⟨c1,c2,c3,c4⟩,c5⟩:=hi
        have hw:((wRow (vLst r.1):Nat):Int)=((r.1.length+wRows r.1:Nat):Int):=by
          rw [w7]
          simp only [wRows,List.length_nil]
          show ((0+(r.1.length+wRows r.1)+(0+0)+(0+0):Nat):Int)=_
          omega
        refine ⟨by show k≤r.2.1;omega,c2,fun hb=>⟨c5 hb,by show k < r.2.1;omega,?_⟩,?_⟩
        · show ((wRow (vLst r.1):Nat):Int)≤2 * (r.2.1 - k)
          have:=c3 hb
          omega
        · show ((wRow (vLst r.1):Nat):Int)≤2 * (r.2.1 - k)+((d+1:Nat):Int)+1
          omega
    · exact numI_pos b (d+1) h0 h
noncomputable def wholeI (s:ByteArray):Rd3 :=
  if stB s 0 ERR=true then (vErr (errI (s.extract 6 s.size)),s.size,true) else
  if stB s 0 RNG=true then
    (vStr (iAt (numIR s 6 true).1 1) (iAt (numIR s (andK s (numIR s 6 true).2.1 (numIR s 6 true).2.2 COMMA) (andB s (numIR s 6 true).2.1 (numIR s 6 true).2.2 COMMA)).1 1),
      andK s (numIR s (andK s (numIR s 6 true).2.1 (numIR s 6 true).2.2 COMMA) (andB s (numIR s 6 true).2.1 (numIR s 6 true).2.2 COMMA)).2.1 (numIR s (andK s (numIR s 6 true).2.1 (numIR s 6 true).2.2 COMMA) (andB s (numIR s 6 true).2.1 (numIR s 6 true).2.2 COMMA)).2.2 RPA,
      andB s (numIR s (andK s (numIR s 6 true).2.1 (numIR s 6 true).2.2 COMMA) (andB s (numIR s 6 true).2.1 (numIR s 6 true).2.2 COMMA)).2.1 (numIR s (andK s (numIR s 6 true).2.1 (numIR s 6 true).2.2 COMMA) (andB s (numIR s 6 true).2.1 (numIR s 6 true).2.2 COMMA)).2.2 RPA) else
  if stB s 0 TBO=true then
    (vTbl (strRows (wordsB ((valI s 0 6 true).1.getD 3 default).str)) ((lst (valI s 2 (andK s (valI s 0 6 true).2.1 (valI s 0 6 true).2.2 COMMA) (andB s (valI s 0 6 true).2.1 (valI s 0 6 true).2.2 COMMA)).1).map rowOfV),
      andK s (valI s 2 (andK s (valI s 0 6 true).2.1 (valI s 0 6 true).2.2 COMMA) (andB s (valI s 0 6 true).2.1 (valI s 0 6 true).2.2 COMMA)).2.1 (valI s 2 (andK s (valI s 0 6 true).2.1 (valI s 0 6 true).2.2 COMMA) (andB s (valI s 0 6 true).2.1 (valI s 0 6 true).2.2 COMMA)).2.2 RPA,
      andB s (valI s 2 (andK s (valI s 0 6 true).2.1 (valI s 0 6 true).2.2 COMMA) (andB s (valI s 0 6 true).2.1 (valI s 0 6 true).2.2 COMMA)).2.1 (valI s 2 (andK s (valI s 0 6 true).2.1 (valI s 0 6 true).2.2 COMMA) (andB s (valI s 0 6 true).2.1 (valI s 0 6 true).2.2 COMMA)).2.2 RPA) else
  valI s 3 0 true
noncomputable def pvI (s:ByteArray):List D × Bool:=pvOf (wholeI s).1 ((wholeI s).2.2 && (wholeI s).2.1 == (s.size:Int)) s
theorem idx_take:∀ (l:List UInt8),Lib.indexByte l 34=if (l.takeWhile fun b=>((b.toNat:Int) != 34)).length=l.length then -1 else ((l.takeWhile fun b=>((b.toNat:Int) != 34)).length:Int)
  | []=>rfl
  | b :: r=>by
    have ih:=idx_take r
    unfold Lib.indexByte
    by_cases hb:b=34
    · subst hb
      rw [List.takeWhile_cons_of_neg (by decide)]
      rfl
    · have hp:((b.toNat:Int) != 34)=true:=by
        rw [bne_iff_ne]
        intro e
        exact hb (UInt8.toNat_inj.1 (by show b.toNat=34;omega))
      rw [List.takeWhile_cons_of_pos (p:=fun b:UInt8=>((b.toNat:Int) != 34)) hp,if_neg (by simpa using hb),ih,List.length_cons,List.length_cons]
      have hle:=(List.takeWhile_sublist (fun b:UInt8=>((b.toNat:Int) != 34)) (l:=r)).length_le
      generalize (r.takeWhile fun b=>((b.toNat:Int) != 34)).length=t at *
      by_cases he:t=r.length
      · rw [if_pos he,if_pos (by rfl),if_pos (by omega)]
      · rw [if_neg he,if_neg (by rw [beq_iff_eq];omega),if_neg (by omega)]
        omega
theorem ext_drop (s:ByteArray) (j:Nat):(s.extract j s.size).data.toList=s.data.toList.drop j:=by
  rw [ext_list,List.take_of_length_le (by rw [Array.length_toList];exact Nat.le_refl _)]
theorem idx_quo {s:ByteArray} {k:Nat} (h:k+1≤s.size):Lib.indexByte (s.extract (k+1) s.size).data.toList 34=if quoE s (k:Int)=s.size then -1 else (quoE s (k:Int):Int) - (k+1):=by
  rw [idx_take,ext_drop]
  have e:quoE s (k:Int)=k+1+((s.data.toList.drop (k+1)).takeWhile fun b=>((b.toNat:Int) != 34)).length:=rfl
  rw [e]
  generalize ((s.data.toList.drop (k+1)).takeWhile fun b=>((b.toNat:Int) != 34)).length=t
  have hl:(s.data.toList.drop (k+1)).length=s.size - (k+1):=by rw [List.length_drop,Array.length_toList];rfl
  rw [hl]
  by_cases ht:t=s.size - (k+1)
  · rw [if_pos ht,if_pos (by omega)]
  · rw [if_neg ht,if_neg (by omega)]
    omega
theorem pre_st {s w:ByteArray} {k:Nat} (h:k≤s.size):Lib.hasPrefix (s.extract k s.size).data.toList w.data.toList=stB s (k:Int) w:=by
  unfold Lib.hasPrefix stB
  rw [ext_drop,Bool.eq_iff_iff,List.isPrefixOf_iff_prefix,Bool.and_eq_true,decide_eq_true_eq,beq_iff_eq,ByteArray.toList_eq,ByteArray.toList_eq]
  have e:(((k:Int)+(w.size:Int)).toNat)=k+w.size:=by omega
  rw [Int.toNat_natCast,e,ext_list]
  have hw:w.data.toList.length=w.size:=Array.length_toList
  have hs:s.data.toList.length=s.size:=Array.length_toList
  rw [List.drop_take,show k+w.size - k=w.data.toList.length by omega]
  constructor
  · intro hp
    have hl:=hp.length_le
    rw [List.length_drop,hs,hw] at hl
    exact ⟨by omega,(List.prefix_iff_eq_take.1 hp).symm⟩
  · intro ⟨_,hp⟩
    exact List.prefix_iff_eq_take.2 hp.symm
theorem errI_eq (t:ByteArray):errI t=errC t:=by
  have hall:∀ k,k < 8→isAt (strRows errs.tail) t k=isAt (strRows errs) t (k+1):=by
    intro k hk
    match k,hk with
    | 0,_=>rfl
    | 1,_=>rfl
    | 2,_=>rfl
    | 3,_=>rfl
    | 4,_=>rfl
    | 5,_=>rfl
    | 6,_=>rfl
    | 7,_=>rfl
  have hne:∀ k,k < 8→tAt (strRows errs.tail) k ≠ ES:=by
    intro k hk
    match k,hk with
    | 0,_=>decide
    | 1,_=>decide
    | 2,_=>decide
    | 3,_=>decide
    | 4,_=>decide
    | 5,_=>decide
    | 6,_=>decide
    | 7,_=>decide
  have l8:(strRows errs.tail).length=8:=rfl
  have l9:(strRows errs).length=9:=rfl
  unfold errI errC
  by_cases ht:t.toList=[]
  · rw [if_pos ht]
    have:idxT (strRows errs.tail) t = -1:=by
      unfold idxT
      refine firstB_none fun j hj=>?_
      rw [Bool.not_eq_true',beq_eq_false_iff_ne]
      intro he
      rw [ht] at he
      refine hne j (by omega) ?_
      have:(tAt (strRows errs.tail) j).toList=ES.toList:=by rw [he,nil_toList]
      rw [str_inj] at this
      exact this
    rw [this];rfl
  · rw [if_neg ht]
    have h0:isAt (strRows errs) t 0=false:=by
      show (ES.toList == t.toList)=false
      rw [beq_eq_false_iff_ne,nil_toList]
      exact fun e=>ht e.symm
    unfold idxT
    rw [l8,l9]
    rcases firstB_cases 8 (isAt (strRows errs.tail) t) with ⟨h1,h2⟩|⟨i,hi,h1,h2,h3⟩
    · have:firstB 9 (isAt (strRows errs) t) = -1:=firstB_none fun j hj=>by
        rw [Bool.not_eq_true']
        cases j with
        | zero=>exact h0
        | succ j=>rw [← hall j (by omega)];exact h2 j (by omega)
      rw [h1,this];rfl
    · have:firstB 9 (isAt (strRows errs) t)=((i+1:Nat):Int):=firstB_hit (by omega) (by rw [← hall i hi];exact h2) fun j hj=>by
        rw [Bool.not_eq_true']
        cases j with
        | zero=>exact h0
        | succ j=>rw [← hall j (by omega)];exact h3 j (by omega)
      rw [h1,this]
      omega
variable {T:Tab}
abbrev rdrC (s:ByteArray) (k:Int) (b:Bool):List CV:=[.s s,.i .i64 k,.b b]
abbrev rdrS (s:ByteArray) (k:Int) (b:Bool):SV:=.tup [(true,rdrC s k b)]
def spHasP:FSpec where
  pre args:=∃ s w:ByteArray,args=[sArg s,sArg w]
  res args:=match args with
    | [.val _ [.s s],.val _ [.s w]]=>.val false [.b (Lib.hasPrefix s.data.toList w.data.toList)]
    | _=>.none
def spIdxB:FSpec where
  pre args:=∃ s:ByteArray,s.size≤1048576∧args=[sArg s,.val false [.i .u8 34]]
  res args:=match args with
    | [.val _ [.s s],_]=>.val false [.i .i64 (Lib.indexByte s.data.toList 34)]
    | _=>.none
theorem FOk.quiet1 {P:Program} {f:FuncId} {s:FSpec} (hcall:∀ args w,(callFunc f args).run P w=.ok (.enter f args) w) (hbx:s.bx=false)
    (h:∀ (w:World) (X:Nat→Prop) (args:List SV) (vals:List Value),ArgsR T w X vals args→s.pre args→Calls P f vals.toArray w fun e w' => ∃ v,e=.returned v∧w' = w∧∃ c,s.res args=.val false [c]∧ArgC T w X v c∧∀ e rows,c ≠ .sl true e rows):FOk P T f s:=by
  refine ⟨hcall,fun hb=>(by rw [hbx] at hb;cases hb),fun _ w X args vals hX hargs hgl hpre=>?_,fun hb=>(by rw [hbx] at hb;cases hb)⟩
  refine (h w X args vals hargs hpre).mono fun e w' ⟨v,he,hw,c,hc,ha,hn⟩=>⟨v,fun _=>noB,he,hw ▸ Below.refl _ _,?_,(fun j b h=>by cases h),(fun j j2 b h=>by cases h)⟩
  rw [hc,hw]
  refine ⟨c,rfl,?_⟩
  have ha' : ArgC T w (fun b=>X b∨∃ j:Nat,noB b) v c:=ArgC.less (X:=X) ha fun b _ hb=>by
    rcases hb with hb|⟨j,hj⟩
    · exact hb
    · exact hj.elim
  cases c with
  | sl own e rows=>cases own with
    | true=>exact absurd rfl (hn e rows)
    | false=>exact ha'
  | _=>exact ha'
theorem hasP_ok {P:Program} {f:FuncId} (hcall:∀ args w,(callFunc f args).run P w=.ok (.enter f args) w)
    (h:∀ (s p:ByteArray) (w:World),Calls P f #[.string s,.string p] w fun e w' => e=.returned (.bool (Lib.hasPrefix s.data.toList p.data.toList))∧w' = w):FOk P T f spHasP:=by
  refine FOk.quiet1 hcall rfl fun w X args vals hargs hpre=>?_
  obtain ⟨s,p,rfl⟩:=hpre
  obtain ⟨v,u,rfl,h1,h2⟩:=hargs.two_
  obtain ⟨rfl,_⟩:=h1
  obtain ⟨rfl,_⟩:=h2
  exact (h s p w).mono fun e w' ⟨he,hw⟩=>⟨_,he,hw,_,rfl,rfl,fun e rows h=>by cases h⟩
theorem idxB_ok {P:Program} {f:FuncId} (hcall:∀ args w,(callFunc f args).run P w=.ok (.enter f args) w)
    (h:∀ (s:ByteArray) (c:Int) (w:World),Calls P f #[.string s,.int .u8 c] w fun e w' => e=.returned (.int .i64 (Lib.indexByte s.data.toList c.toNat.toUInt8))∧w' = w):FOk P T f spIdxB:=by
  refine FOk.quiet1 hcall rfl fun w X args vals hargs hpre=>?_
  obtain ⟨s,hs,rfl⟩:=hpre
  obtain ⟨v,u,rfl,h1,h2⟩:=hargs.two_
  obtain ⟨rfl,_⟩:=h1
  obtain ⟨rfl,_⟩:=h2
  refine (h s 34 w).mono fun e w' ⟨he,hw⟩=>⟨_,he,hw,_,rfl,⟨rfl,?_⟩,fun e rows h=>by cases h⟩
  have h1:IntKind.i64.min = -9223372036854775808:=by decide
  have h2:IntKind.i64.max=9223372036854775807:=by decide
  have hl:s.data.toList.length=s.size:=Array.length_toList
  have hle:=(List.takeWhile_sublist (fun b:UInt8=>((b.toNat:Int) != 34)) (l:=s.data.toList)).length_le
  show inK .i64 (Lib.indexByte s.data.toList 34)
  rw [idx_take,inK,h1,h2]
  split <;> omega
def spTake:FSpec where
  pre args:=∃ (s w:ByteArray) (k:Int) (b:Bool),PosIn s k∧w.size≤100∧args=[rdrS s k b,sArg w]
  bx:=true
  res args:=match args with
    | [.tup [(_,[.s s,.i _ k,.b b])],.val _ [.s w]]=>.val false [.b (stB s k w)]
    | _=>.none
  upd args:=match args with
    | [.tup [(_,[.s s,.i _ k,.b b])],.val _ [.s w]]=>rdrC s (tkK s k w) b
    | _=>[]
def spRd (cts:List CT) (ok:ByteArray→Int→Bool→Prop) (g:ByteArray→Int→Bool→Rd3):FSpec where
  pre args:=∃ (s:ByteArray) (k:Int) (b:Bool),PosIn s k∧ok s k b∧args=[rdrS s k b]
  bx:=true
  res args:=match args with
    | [.tup [(_,[.s s,.i _ k,.b b])]]=>.val true (rowC cts (g s k b).1)
    | _=>.none
  upd args:=match args with
    | [.tup [(_,[.s s,.i _ k,.b b])]]=>rdrC s (g s k b).2.1 (g s k b).2.2
    | _=>[]
def spRdD (cts:List CT) (d:Nat) (g:ByteArray→Int→Bool→Rd3):FSpec where
  pre args:=∃ (s:ByteArray) (k:Int) (b:Bool) (x:Int),PosIn s k∧x=(d:Int)∧args=[rdrS s k b,iArg x]
  bx:=true
  res args:=match args with
    | [.tup [(_,[.s s,.i _ k,.b b])],_]=>.val true (rowC cts (g s k b).1)
    | _=>.none
  upd args:=match args with
    | [.tup [(_,[.s s,.i _ k,.b b])],_]=>rdrC s (g s k b).2.1 (g s k b).2.2
    | _=>[]
theorem updR {s:ByteArray} {k k' : Int} {b b' : Bool} (h:k=k') (hb:b=b'):[CV.s s,CV.i .i64 k,CV.b b]=rdrC s k' b' := by rw [h,hb]
theorem tk_no {s w:ByteArray} {k:Int} (h:(!stB s k w)=true):k=tkK s k w:=by unfold tkK;rw [if_neg (by rw [of_notT h];decide)]
theorem tk_yes {s w:ByteArray} {k:Int} (h:(!stB s k w)=false):k+(w.size:Int)=tkK s k w:=by unfold tkK;rw [if_pos (of_notF h)]
theorem PosIn.tk {s:ByteArray} {k:Int} (h:PosIn s k) (w:ByteArray):PosIn s (tkK s k w):=by
  have:=tkK_le (s:=s) (w:=w) h.2.2
  exact ⟨h.1,by have:=h.2.1;omega,this.2⟩
theorem PosIn.andK {s:ByteArray} {k:Int} (h:PosIn s k) (b:Bool) (w:ByteArray):PosIn s (Ab.andK s k b w):=by
  have:=andK_le (s:=s) (w:=w) (b:=b) h.2.2
  exact ⟨h.1,by have:=h.2.1;omega,this.2⟩
theorem PosI.in_ {s:ByteArray} {k:Int} {b:Bool} {d:Nat} {r:Rd3} (h:PosIn s k) (hr:PosI s k b d r):PosIn s r.2.1:=⟨h.1,by have:=h.2.1;have:=hr.1;omega,hr.2.1⟩
theorem andK_T {s w:ByteArray} {k:Int} {b:Bool} (h:b=true):tkK s k w=Ab.andK s k b w:=by unfold Ab.andK;rw [if_pos h]
theorem andK_F {s w:ByteArray} {k:Int} {b:Bool} (h:b=false):k=Ab.andK s k b w:=by unfold Ab.andK;rw [if_neg (by rw [h];decide)]
theorem andB_1 {s w:ByteArray} {k:Int} {b:Bool} (h:b=true):stB s k w=andB s k b w:=by unfold andB;rw [h];rfl
theorem andB_2 {s w:ByteArray} {k:Int} {b:Bool} (h:b=false):false=andB s k b w:=by unfold andB;rw [h];rfl
theorem md_1 {s:ByteArray} {k:Nat} (h:(bAt s k == 45)=true):mdB (bAt s k)=true:=by unfold mdB;rw [h];rfl
theorem md_2 {s:ByteArray} {k:Nat} (h1:decide (bAt s k ≥ 48)=true) (h2:decide (bAt s k≤57)=true):mdB (bAt s k)=true:=by unfold mdB digB;rw [h1,h2];simp
theorem md_3 {s:ByteArray} {k:Nat} (h:(bAt s k == 45)=false) (h1:decide (bAt s k ≥ 48)=false):mdB (bAt s k)=false:=by unfold mdB digB;rw [h,h1];rfl
theorem md_4 {s:ByteArray} {k:Nat} (h:(bAt s k == 45)=false) (h2:decide (bAt s k≤57)=false):mdB (bAt s k)=false:=by unfold mdB digB;rw [h,h2];simp
section
variable {s:ByteArray} {k:Int} {b:Bool} {d:Nat}
theorem vI_t1 (hq:stB s k QUO=true) (h:(quoP s k).2 < 0):∀ d,valI s d k b=(vNil,k+1,false)
  | 0=>by unfold valI;rw [if_pos hq,if_pos h]
  | d+1=>by unfold valI;rw [if_pos hq,if_pos h]
theorem vI_t2 (hq:stB s k QUO=true) (h:¬ (quoP s k).2 < 0):∀ d,valI s d k b=(vTxt (quoP s k).1,(quoP s k).2,b)
  | 0=>by unfold valI;rw [if_pos hq,if_neg h]
  | d+1=>by unfold valI;rw [if_pos hq,if_neg h]
theorem vI_n0 (hq:stB s k QUO=false):valI s 0 k b=numIR s k b:=by unfold valI;rw [if_neg (by rw [hq];decide)]
theorem vI_n (hq:stB s k QUO=false) (h:stB s k LBR=false):valI s (d+1) k b=numIR s k b:=by unfold valI;rw [if_neg (by rw [hq];decide),if_neg (by rw [h];decide)]
theorem vI_e (hq:stB s k QUO=false) (h:stB s k LBR=true) (h2:stB s (k+1) RBR=true):valI s (d+1) k b=(vLst [],k+1+1,b):=by
  unfold valI;rw [if_neg (by rw [hq];decide),if_pos h,if_pos h2]
theorem vI_l (hq:stB s k QUO=false) (h:stB s k LBR=true) (h2:stB s (k+1) RBR=false):valI s (d+1) k b=(vLst (itemsI (valI s d) s (s.size+3) (k+1) b []).1,(itemsI (valI s d) s (s.size+3) (k+1) b []).2):=by
  rw [valI,if_neg (by rw [hq];decide),if_pos h,if_neg (by rw [h2];decide)]
end
end Go.Proofs.YtppgalpldaibhaaGreatDoor.Ab
