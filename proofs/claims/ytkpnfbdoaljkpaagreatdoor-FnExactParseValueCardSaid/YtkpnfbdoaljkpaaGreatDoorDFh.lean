/- Operations, in plain Lean: when they are valid; their numbers; their -/
import Derived.Test.YtkpnfbdoaljkpaaGreatDoorDQa
import Derived.Lib.HexFns2
import Derived.Lib.SplitLaws
import Derived.Lib.IndexLaws
import Derived.Lib.CountLaws
import Derived.Lib.IndexBytes
import Derived.Test.YtkpnfbdoaljkpaaGreatDoorDTa
import Derived.IntWalk
namespace Go.Proofs.YtkpnfbdoaljkpaaGreatDoor.Ab
open Go.RowKit
set_option linter.unusedVariables false
def intOf (r:List D):Int:=(r.getD 0 default).int
theorem decDigits_le:∀ (k u:Nat),u < 10 ^ (k+1)→(Lib.decDigits u).length≤k+1
  | 0,u,h=>by
    rw [Lib.decDigits,dif_pos (by simpa using h)]
    simp
  | k+1,u,h=>by
    rw [Lib.decDigits]
    split
    · simp
    · have:=decDigits_le k (u / 10) (by rw [Nat.div_lt_iff_lt_mul (by decide)];rw [Nat.pow_succ] at h;exact h)
      rw [List.length_append,List.length_singleton]
      omega
theorem joinTail_len (sep:List UInt8) (M:Nat):∀ (xs:List (List UInt8)),(∀ x ∈ xs,x.length≤M)→(Lib.joinTail sep xs).length≤xs.length * (M+sep.length)
  | [],_=>Nat.zero_le _
  | x :: xs,h=>by
    have ih:=joinTail_len sep M xs (fun y hy=>h y (List.mem_cons_of_mem _ hy))
    have hx:=h x (List.mem_cons_self ..)
    have:Lib.joinTail sep (x :: xs)=sep++x++Lib.joinTail sep xs:=by simp [Lib.joinTail]
    rw [this,List.length_append,List.length_append,List.length_cons,Nat.add_mul,Nat.one_mul]
    omega
theorem joinT_len {xs:List ByteArray} {sep:ByteArray} {M:Nat} (h:∀ x ∈ xs,x.size≤M):(joinT xs sep).size≤xs.length * (M+sep.size):=by
  show (Lib.join (xs.map (·.data.toList)) sep.data.toList).toArray.size≤_
  rw [List.size_toArray]
  have hs:sep.data.toList.length=sep.size:=by rw [Array.length_toList];rfl
  cases xs with
  | nil=>exact Nat.zero_le _
  | cons x xs =>
    have hx:x.data.toList.length≤M:=by rw [Array.length_toList];exact h x (List.mem_cons_self ..)
    have:=joinTail_len sep.data.toList M (xs.map (·.data.toList)) (fun y hy=>by
      obtain ⟨z,hz,rfl⟩:=List.mem_map.1 hy
      rw [Array.length_toList];exact h z (List.mem_cons_of_mem _ hz))
    rw [hs,List.length_map] at this
    have hj:Lib.join ((x :: xs).map (·.data.toList)) sep.data.toList=x.data.toList++Lib.joinTail sep.data.toList (xs.map (·.data.toList)):=Lib.join_cons _ _ _
    rw [hj,List.length_append,List.length_cons,Nat.add_mul,Nat.one_mul]
    omega
end Go.Proofs.YtkpnfbdoaljkpaaGreatDoor.Ab
namespace Go.Proofs.YtkpnfbdoaljkpaaGreatDoor
open Go.Lib
end Go.Proofs.YtkpnfbdoaljkpaaGreatDoor
namespace Go.Proofs.YtkpnfbdoaljkpaaGreatDoor.Ab
open Go.RowKit
set_option linter.unusedVariables false
open Classical in
noncomputable def prs (lo hi:Int) (s:ByteArray):Int × Bool:=if h:∃ n:Int,lo≤n∧n≤hi∧itoaB n=s then (h.choose,true) else (0,false)
theorem itoaB_list (n:Int):(itoaB n).data.toList=Lib.itoa n:=by simp [itoaB]
theorem itoaB_inj {n m:Int} (h:itoaB n=itoaB m):n=m:=by
  have h1:=congrArg (fun s=>Lib.atoi s.data.toList) h
  simp only [itoaB_list,atoi_itoa,Option.some.injEq] at h1
  exact h1
theorem prs_yes {lo hi n:Int} {s:ByteArray} (h1:lo≤n) (h2:n≤hi) (h:itoaB n=s):prs lo hi s=(n,true):=by
  have hex:∃ n:Int,lo≤n∧n≤hi∧itoaB n=s:=⟨n,h1,h2,h⟩
  unfold prs
  rw [dif_pos hex]
  have:=hex.choose_spec
  rw [itoaB_inj (this.2.2.trans h.symm)]
theorem prs_no {lo hi:Int} {s:ByteArray} (h:∀ n:Int,lo≤n→n≤hi→itoaB n ≠ s):prs lo hi s=(0,false):=dif_neg fun ⟨n,h1,h2,h3⟩=>h n h1 h2 h3
theorem prs_in {lo hi:Int} {s:ByteArray} (h1:lo≤0) (h2:0≤hi):lo≤(prs lo hi s).1∧(prs lo hi s).1≤hi:=by
  by_cases h:∃ n:Int,lo≤n∧n≤hi∧itoaB n=s
  · obtain ⟨n,h3,h4,h5⟩:=h
    rw [prs_yes h3 h4 h5]
    exact ⟨h3,h4⟩
  · rw [prs_no fun n h3 h4 h5=>h ⟨n,h3,h4,h5⟩]
    exact ⟨h1,h2⟩
theorem prs_ok {lo hi:Int} {s:ByteArray} (h:(prs lo hi s).2=true):itoaB (prs lo hi s).1=s:=by
  by_cases hx:∃ n:Int,lo≤n∧n≤hi∧itoaB n=s
  · obtain ⟨n,h3,h4,h5⟩:=hx
    rw [prs_yes h3 h4 h5]
    exact h5
  · rw [prs_no fun n h3 h4 h5=>hx ⟨n,h3,h4,h5⟩] at h
    cases h
theorem digits_head (u:Nat):(Lib.decDigits u).head? ≠ some 45:=by
  intro h
  have hm:(45:UInt8) ∈ Lib.decDigits u:=List.mem_of_mem_head? h
  exact absurd (digits_mem u _ hm) (by decide)
def tlB (l:List UInt8):List UInt8:=if l.head? = some 45 then l.drop 1 else l
theorem tlB_itoa (m:Int):tlB (Lib.itoa m)=Lib.decDigits m.natAbs∧((Lib.itoa m).head? = some 45 ↔ m < 0):=by
  unfold Lib.itoa
  split
  · rename_i h
    exact ⟨rfl,fun _=>h,fun _=>rfl⟩
  · rename_i h
    refine ⟨?_,fun h2=>absurd h2 (digits_head _),fun h2=>absurd h2 h⟩
    unfold tlB
    rw [if_neg (digits_head _)]
    congr 1
    omega
theorem digits_short {k u:Nat} (h:u < 10 ^ (k+1)):(Lib.decDigits u).length≤k+1:=decDigits_le k u h
theorem read_same {s:ByteArray} {n:Int} (N:Nat) (hN:N < 1000000000000) (hd:Lib.decFrom 0 (tlB s.data.toList)=some N) (hs:n=if s.data.toList.head? = some 45 then -(N:Int) else N) :
    prs (-999999999999) 999999999999 s=if itoaB n=s then (n,true) else (0,false):=by
  split
  · exact prs_yes (by split at hs <;> omega) (by split at hs <;> omega) ‹_›
  · rename_i hne
    refine prs_no fun m h1 h2 hm=>hne ?_
    obtain ⟨e1,e2⟩:=tlB_itoa m
    have hl:s.data.toList=Lib.itoa m:=by rw [← hm,itoaB_list]
    rw [hl,e1,digits_back] at hd
    have hN' : m.natAbs=N:=Option.some.inj hd
    have:n=m:=by
      rw [hs,hl]
      split
      · rename_i h;have:=e2.1 h;omega
      · rename_i h;have:¬ m < 0:=fun h' => h (e2.2 h');omega
    rw [this]
    exact hm
theorem read_len {s:ByteArray} (h:(tlB s.data.toList).length < 1∨(tlB s.data.toList).length > 12):prs (-999999999999) 999999999999 s=(0,false):=by
  refine prs_no fun m h1 h2 hm=>?_
  have hl:s.data.toList=Lib.itoa m:=by rw [← hm,itoaB_list]
  obtain ⟨e1,_⟩:=tlB_itoa m
  rw [hl,e1] at h
  have:=digits_short (k:=11) (u:=m.natAbs) (by simp only [Nat.reduceAdd,Nat.reducePow];omega)
  have h0:0 < (Lib.decDigits m.natAbs).length:=List.length_pos_iff.2 (digits_ne _)
  omega
theorem read_bad {s:ByteArray} {i:Nat} {b:UInt8} (hb:(tlB s.data.toList)[i]? = some b) (h:b.toNat < 48∨57 < b.toNat) (lo hi:Int):prs lo hi s=(0,false):=by
  refine prs_no fun m h1 h2 hm=>?_
  have hl:s.data.toList=Lib.itoa m:=by rw [← hm,itoaB_list]
  obtain ⟨e1,_⟩:=tlB_itoa m
  rw [hl,e1] at hb
  have:=digits_mem m.natAbs b (List.mem_of_getElem? hb)
  omega
theorem digit_val {b:UInt8} (h1:48≤b.toNat) (h2:b.toNat≤57):Lib.digitVal b=some (b.toNat - 48):=by
  unfold Lib.digitVal
  rw [if_pos ⟨h1,h2⟩]
theorem read_next {l:List UInt8} {i N:Nat} {b:UInt8} (hd:Lib.decFrom 0 (l.take i)=some N) (hb:l[i]? = some b) (h1:48≤b.toNat) (h2:b.toNat≤57) :
    Lib.decFrom 0 (l.take (i+1))=some (N * 10+(b.toNat - 48)):=Lib.decFrom_take l i 0 N b _ hd hb (digit_val h1 h2)
theorem itoaB_long {n:Int} {s:ByteArray} (h:18 < s.size) (h1:-999999999999≤n) (h2:n≤999999999999):itoaB n ≠ s:=by
  intro e
  have hl:(Lib.itoa n).length=s.size:=by rw [← itoaB_list,e,Array.length_toList];rfl
  have:=digits_short (k:=11) (u:=n.natAbs) (by simp only [Nat.reduceAdd,Nat.reducePow];omega)
  unfold Lib.itoa at hl
  split at hl
  · rw [List.length_cons] at hl;omega
  · rw [show n.toNat=n.natAbs by omega] at hl;omega
def wordsB (s:ByteArray):List ByteArray:=(words32 s.data.toList).map fun w=>⟨w.toArray⟩
theorem words32_cut (w r:List UInt8) (h:∀ b ∈ w,b ≠ 32):words32 (w++32 :: r)=w :: words32 r:=by
  have:=words32_app w (32 :: r) h [] (words32 r) (words32_space r)
  rw [this,List.append_nil]
theorem words32_none (w:List UInt8) (h:∀ b ∈ w,b ≠ 32):words32 w=[w]:=by
  have:=words32_app w [] h [] [] rfl
  simp only [List.append_nil] at this
  exact this
theorem split_words:∀ (k:Nat) (s:ByteArray),s.size≤k→Lib.splitB ⟨#[32]⟩ 0 (Lib.countB s ⟨#[32]⟩) s=wordsB s
  | k, s, hk=>by
    have one:Lib.indexB s ⟨#[32]⟩=Lib.indexByte s.data.toList 32:=Lib.one s ⟨#[32]⟩ rfl
    have ge:=Lib.indexByte_ge s.data.toList 32
    rcases (by omega:Lib.indexByte s.data.toList 32 = -1∨0≤Lib.indexByte s.data.toList 32) with h|h
    · rw [Lib.countB_miss _ _ (one.trans h),Lib.splitB_zero]
      have hn:∀ b ∈ s.data.toList,b ≠ 32:=fun b hb e=>by
        obtain ⟨i,hi⟩:=List.getElem?_of_mem hb
        exact Lib.indexByte_none h i (e ▸ hi)
      unfold wordsB
      rw [words32_none _ hn]
      rfl
    · obtain ⟨i,hi⟩:∃ i:Nat,Lib.indexByte s.data.toList 32=i:=⟨_,(Int.toNat_of_nonneg h).symm⟩
      obtain ⟨h1,h2⟩:=Lib.indexByte_some hi
      have hlt:i < s.data.toList.length:=(List.getElem?_eq_some_iff.1 h1).1
      have hsz:s.data.toList.length=s.size:=by rw [Array.length_toList];rfl
      rw [Lib.countB_hit _ _ i (by decide) (one.trans hi),Nat.add_comm,Lib.splitB_hit _ _ _ _ i (one.trans hi)]
      have hl:s.data.toList=s.data.toList.take i++32 :: s.data.toList.drop (i+1):=by
        have h3:s.data.toList[i]=32:=(List.getElem?_eq_some_iff.1 h1).2
        rw [← h3,List.getElem_cons_drop,List.take_append_drop]
      have hw:words32 s.data.toList=s.data.toList.take i :: words32 (s.data.toList.drop (i+1)):=by
        conv=>lhs;rw [hl]
        exact words32_cut _ _ fun b hb e=>by
          obtain ⟨j,hj⟩:=List.getElem?_of_mem hb
          have hj1:=(List.getElem?_eq_some_iff.1 hj).1
          rw [List.length_take] at hj1
          rw [List.getElem?_take_of_lt (by omega)] at hj
          exact h2 j (by omega) (e ▸ hj)
      have ih:=split_words (k - 1) (s.extract (i+1) s.size) (by rw [ByteArray.size_extract];omega)
      have e1:(s.extract (i+1) s.size).data.toList=s.data.toList.drop (i+1):=by
        rw [ByteArray.data_extract,Array.toList_extract]
        rw [List.extract_eq_drop_take', ← hsz,List.take_length]
      have e0:s.extract 0 (i+0)=⟨(s.data.toList.take i).toArray⟩:=by
        apply ByteArray.ext
        apply Array.ext'
        rw [ByteArray.data_extract,Array.toList_extract,List.extract_eq_drop_take']
        simp
      show s.extract 0 (i+0) :: Lib.splitB ⟨#[32]⟩ 0 (Lib.countB (s.extract (i+1) s.size) ⟨#[32]⟩) (s.extract (i+1) s.size)=_
      rw [ih,e0]
      unfold wordsB
      rw [hw,e1]
      rfl
  termination_by k s=>s.size
  decreasing_by
    rw [ByteArray.size_extract]
    have:s.data.toList.length=s.size:=by rw [Array.length_toList];rfl
    omega
theorem words32_len:∀ (l:List UInt8), ∀ w ∈ words32 l,w.length≤l.length
  | [],w,h=>by
    rw [words32] at h
    rw [List.mem_singleton.1 h]
    exact Nat.le_refl _
  | b :: r,w,h=>by
    have ih:=words32_len r
    rw [words32] at h
    split at h
    · rcases List.mem_cons.1 h with rfl|h
      · exact Nat.zero_le _
      · have:=ih w h;rw [List.length_cons];omega
    · split at h
      · rename_i x xs hx
        rcases List.mem_cons.1 h with rfl|h
        · have:=ih x (by rw [hx];exact List.mem_cons_self ..)
          rw [List.length_cons,List.length_cons];omega
        · have:=ih w (by rw [hx];exact List.mem_cons_of_mem _ h)
          rw [List.length_cons];omega
      · rw [List.mem_singleton.1 h,List.length_cons,List.length_cons]
        simp
theorem words32_count:∀ (l:List UInt8),(words32 l).length≤l.length+1
  | []=>Nat.le_refl _
  | b :: r=>by
    have ih:=words32_count r
    rw [words32]
    split
    · rw [List.length_cons,List.length_cons];omega
    · split
      · rename_i x xs hx
        rw [hx,List.length_cons] at ih
        rw [List.length_cons,List.length_cons];omega
      · rw [List.length_cons,List.length_cons];simp
theorem wordsB_size {s x:ByteArray} (h:x ∈ wordsB s):x.size≤s.size:=by
  obtain ⟨w,hw,rfl⟩:=List.mem_map.1 h
  have hs:s.data.toList.length=s.size:=by rw [Array.length_toList];rfl
  have:=words32_len _ w hw
  show w.toArray.size≤_
  rw [List.size_toArray];omega
theorem wordsB_length (s:ByteArray):(wordsB s).length≤s.size+1:=by
  have hs:s.data.toList.length=s.size:=by rw [Array.length_toList];rfl
  have:=words32_count s.data.toList
  unfold wordsB
  rw [List.length_map];omega
abbrev sArg (s:ByteArray):SV:=.val false [.s s]
abbrev iArg (n:Int):SV:=.val false [.i .i64 n]
noncomputable def prsR (lo hi:Int) (s:ByteArray):SV:=.tup [(false,[.i .i64 (prs lo hi s).1]),(false,[.b (prs lo hi s).2])]
noncomputable def spRead:FSpec where
  pre args:=∃ s:ByteArray,args=[sArg s,iArg 12]
  res args:=match args with
    | [.val _ [.s s],_]=>prsR (-999999999999) 999999999999 s
    | _=>.none
noncomputable def spPrs (lo hi:Int):FSpec where
  pre args:=∃ s:ByteArray,s.size≤281474976710656∧args=[sArg s]
  res args:=match args with
    | [.val _ [.s s]]=>prsR lo hi s
    | _=>.none
noncomputable def spPar:FSpec where
  pre args:=∃ (s:ByteArray) (lo hi:Int),s.size≤281474976710656 ∧ -999999999999≤lo∧hi≤999999999999∧args=[sArg s,iArg lo,iArg hi]
  res args:=match args with
    | [.val _ [.s s],.val _ [.i _ lo],.val _ [.i _ hi]]=>prsR lo hi s
    | _=>.none
def spSplit (o:Bool):FSpec where
  pre args:=∃ s:ByteArray,s.size≤1048576∧args=[sArg s,.val false [.i .u8 32]]
  res args:=match args with
    | [.val _ [.s s],_]=>.val false [.sl o 9 (strRows (wordsB s))]
    | _=>.none
theorem resP {lo hi:Int} {s:ByteArray} {n:Int} {b:Bool} (h:prs lo hi s=(n,b)):[(false,[CV.i .i64 n]),(false,[CV.b b])]=[(false,[CV.i .i64 (prs lo hi s).1]),(false,[CV.b (prs lo hi s).2])]:=by rw [h]
theorem list_getD {s:ByteArray} {i:Nat} (h:i < s.size):s.data.toList[i]? = some (s.data.getD i 0):=by
  have hs:i < s.data.size:=h
  rw [Array.getElem?_toList,Array.getD,dif_pos hs,Array.getElem?_eq_getElem hs]
  rfl
theorem head_is {s:ByteArray} (h0:decide ((s.size:Int) > 0)=true) (h:(((s.data.getD (Int.toNat 0) 0).toNat:Int) == 45)=true):s.data.toList.head? = some 45:=by
  have h1:0 < s.size:=by have:=of_decide_eq_true h0;omega
  rw [List.head?_eq_getElem?,list_getD h1]
  have:(s.data.getD 0 0).toNat=45:=by have h2:((s.data.getD 0 0).toNat:Int)=45:=eq_of_beq h;omega
  exact congrArg some (UInt8.toNat_inj.1 this)
theorem head_isnt {s:ByteArray} (h0:decide ((s.size:Int) > 0)=true) (h:(((s.data.getD (Int.toNat 0) 0).toNat:Int) == 45)=false):s.data.toList.head? ≠ some 45:=by
  have h1:0 < s.size:=by have:=of_decide_eq_true h0;omega
  rw [List.head?_eq_getElem?,list_getD h1]
  intro e
  have h2:((s.data.getD 0 0).toNat:Int)=45:=by rw [Option.some.inj e];rfl
  have h3:((s.data.getD 0 0).toNat:Int) ≠ 45:=by simpa using h
  exact h3 h2
theorem tl_is {s:ByteArray} (h:s.data.toList.head? = some 45):tlB s.data.toList=(s.extract (Int.toNat 1) (s.size:Int).toNat).data.toList:=by
  have hsz:s.data.toList.length=s.size:=by rw [Array.length_toList];rfl
  unfold tlB
  rw [if_pos h,ByteArray.data_extract,Array.toList_extract,List.extract_eq_drop_take',Int.toNat_natCast, ← hsz,List.take_length]
  rfl
theorem tl_isnt {s:ByteArray} (h:s.data.toList.head? ≠ some 45):tlB s.data.toList=s.data.toList:=if_neg h
theorem tl_size {s t:ByteArray} (h:tlB s.data.toList=t.data.toList):(tlB s.data.toList).length=t.size:=by rw [h,Array.length_toList];rfl
def RI (t:ByteArray) (N i:Nat):Prop:=Lib.decFrom 0 (t.data.toList.take i)=some N∧N < 10 ^ i∧i≤t.size
theorem RI.zero (t:ByteArray):RI t 0 0:=⟨rfl,by decide,Nat.zero_le _⟩
theorem RI.small {t:ByteArray} {N i:Nat} (h:RI t N i) (ht:t.size≤12):N < 1000000000000:=Nat.lt_of_lt_of_le h.2.1 (Nat.le_trans (Nat.pow_le_pow_right (by decide) (Nat.le_trans h.2.2 ht)) (by decide))
theorem RI.less {t:ByteArray} {N i:Nat} (h:RI t N i) (hi:i < t.size) (ht:t.size≤12):N < 100000000000:=Nat.lt_of_lt_of_le h.2.1 (Nat.le_trans (Nat.pow_le_pow_right (by decide) (show i≤11 by omega)) (by decide))
theorem RI.next {t:ByteArray} {N i:Nat} (h:RI t N i) (hi:i < t.size) (h1:¬ (t.data.getD i 0).toNat < 48) (h2:¬ (t.data.getD i 0).toNat > 57):RI t (N * 10+((t.data.getD i 0).toNat - 48)) (i+1):=by
  refine ⟨read_next h.1 (list_getD hi) (by omega) (by omega),?_,hi⟩
  have:=h.2.1
  rw [Nat.pow_succ]
  omega
theorem RI.all {t:ByteArray} {N i:Nat} (h:RI t N i) (hi:¬ i < t.size):Lib.decFrom 0 t.data.toList=some N:=by
  have hsz:t.data.toList.length=t.size:=by rw [Array.length_toList];rfl
  have:=h.1
  rw [List.take_of_length_le (by omega)] at this
  exact this
theorem RI.num {t:ByteArray} {N i:Nat} (h:RI t N i) (hi:i < t.size) (ht:t.size≤12) (h1:¬ (t.data.getD i 0).toNat < 48) (h2:¬ (t.data.getD i 0).toNat > 57) :
    IntKind.i64.wrap (IntKind.i64.wrap (10 * (N:Int))+IntKind.i64.wrap (IntKind.u8.wrap (((t.data.getD i 0).toNat:Int) - 48)))=((N * 10+((t.data.getD i 0).toNat - 48):Nat):Int):=by
  have hN:=h.less hi ht
  have e1:IntKind.u8.wrap (((t.data.getD i 0).toNat:Int) - 48)=((t.data.getD i 0).toNat:Int) - 48:=IntWalk.u8_in _ (by omega)
  have e2:IntKind.i64.wrap (((t.data.getD i 0).toNat:Int) - 48)=((t.data.getD i 0).toNat:Int) - 48:=IntWalk.i64_in _ (by omega)
  have e3:IntKind.i64.wrap (10 * (N:Int))=10 * (N:Int):=IntWalk.i64_in _ (by omega)
  rw [e1,e2,e3,IntWalk.i64_in _ (by omega)]
  omega
theorem read_short {s t:ByteArray} (h:tlB s.data.toList=t.data.toList) (hd:decide ((t.size:Int) < 1)=true∨decide ((t.size:Int) > 12)=true):prs (-999999999999) 999999999999 s=(0,false):=by
  refine read_len ?_
  rw [tl_size h]
  rcases hd with h1|h1
  · have:=of_decide_eq_true h1;omega
  · have:=of_decide_eq_true h1;omega
theorem head_none {s:ByteArray} (h0:decide ((s.size:Int) > 0)=false):s.data.toList.head? ≠ some 45:=by
  have h1:s.size=0:=by have:=of_decide_eq_false h0;omega
  have h2:s.data.toList=[]:=List.length_eq_zero_iff.1 (by rw [Array.length_toList];exact h1)
  rw [h2]
  simp
theorem read_less {s t:ByteArray} {i:Nat} (h:tlB s.data.toList=t.data.toList) (hi:i < t.size) (hd:decide (((t.data.getD (Int.toNat (i:Int)) 0).toNat:Int) < 48)=true∨decide (((t.data.getD (Int.toNat (i:Int)) 0).toNat:Int) > 57)=true) (lo hi' : Int):prs lo hi' s=(0,false):=by
  refine read_bad (i:=i) (b:=t.data.getD i 0) (by rw [h];exact list_getD hi) ?_ _ _
  rcases hd with h1|h1
  · exact .inl (by have:=of_decide_eq_true h1;rw [Int.toNat_natCast] at this;omega)
  · exact .inr (by have:=of_decide_eq_true h1;rw [Int.toNat_natCast] at this;omega)
theorem dig_of {t:ByteArray} {i:Nat} (h1:decide (((t.data.getD (Int.toNat (i:Int)) 0).toNat:Int) < 48)=false) (h2:decide (((t.data.getD (Int.toNat (i:Int)) 0).toNat:Int) > 57)=false) :
    ¬ (t.data.getD i 0).toNat < 48∧¬ (t.data.getD i 0).toNat > 57:=by
  have h3:=of_decide_eq_false h1
  have h4:=of_decide_eq_false h2
  rw [Int.toNat_natCast] at h3 h4
  exact ⟨by omega,by omega⟩
theorem read_endT {s:ByteArray} {lo hi n n' : Int} (hn:n' = n) (hd:prs lo hi s=if itoaB n=s then (n,true) else (0,false)) (h:(!(itoaB n').toList == s.toList)=true):prs lo hi s=(0,false):=by
  subst hn
  rw [hd,if_neg]
  intro e
  rw [e] at h
  simp at h
theorem read_endF {s:ByteArray} {lo hi n n' : Int} (hn:n' = n) (hd:prs lo hi s=if itoaB n=s then (n,true) else (0,false)) (h:(!(itoaB n').toList == s.toList)=false):prs lo hi s=(n',true):=by
  subst hn
  rw [hd,if_pos]
  have h2:((itoaB n').toList == s.toList)=true:=by simpa using h
  exact (str_inj _ _).mp (eq_of_beq h2)
theorem snapI {f:Int→Int→Snap} {r r' a b:Int} (h:r=r') (h2:a=b):f r a=f r' b:=by rw [h,h2]
def SpI (s:ByteArray) (o:List ByteArray) (fr i:Nat):Prop :=
  o.length≤i∧((i≤s.size∧fr≤i∧words32 (s.data.toList.take i)=o.map (·.data.toList)++[(s.extract fr i).data.toList])∨(i=s.size+1∧o=wordsB s))
theorem ext_list (s:ByteArray) (a b:Nat):(s.extract a b).data.toList=(s.data.toList.take b).drop a:=by
  rw [ByteArray.data_extract,Array.toList_extract,List.extract_eq_drop_take']
theorem SpI.zero (s:ByteArray):SpI s [] 0 0:=⟨Nat.le_refl _,.inl ⟨Nat.zero_le _,Nat.le_refl _,by rw [ext_list];rfl⟩⟩
theorem SpI.full {s:ByteArray} {o:List ByteArray} {fr i:Nat} (h:SpI s o fr i) (hi:i=s.size):SpI s (o++[s.extract fr i]) (i+1) (i+1):=by
  have hs:s.data.toList.length=s.size:=by rw [Array.length_toList];rfl
  obtain ⟨h0,⟨_,h2,h3⟩|⟨h2,_⟩⟩:=h
  · refine ⟨by rw [List.length_append,List.length_singleton];omega,.inr ⟨by omega,?_⟩⟩
    rw [List.take_of_length_le (by omega)] at h3
    unfold wordsB
    have e1:∀ x:ByteArray,(⟨x.data.toList.toArray⟩:ByteArray)=x:=fun x=>by simp
    rw [h3,List.map_append,List.map_map]
    have e2:(o.map ((fun w:List UInt8=>(⟨w.toArray⟩:ByteArray)) ∘ fun x=>x.data.toList))=o:=by
      conv=>rhs;rw [← List.map_id o]
      exact List.map_congr_left fun x _=>e1 x
    rw [e2,List.map_singleton,e1]
  · omega
theorem take_snoc {s:ByteArray} {i:Nat} (hi:i < s.size):s.data.toList.take (i+1)=s.data.toList.take i++[s.data.getD i 0]:=by
  rw [List.take_add_one,list_getD hi];rfl
theorem SpI.space {s:ByteArray} {o:List ByteArray} {fr i:Nat} (h:SpI s o fr i) (hi:i < s.size) (hb:s.data.getD i 0=32):SpI s (o++[s.extract fr i]) (i+1) (i+1):=by
  obtain ⟨h0,⟨_,h2,h3⟩|⟨h2,_⟩⟩:=h
  · refine ⟨by rw [List.length_append,List.length_singleton];omega,.inl ⟨hi,Nat.le_refl _,?_⟩⟩
    rw [take_snoc hi,words32_snoc _ _ _ _ h3,if_pos hb,List.map_append,ext_list s (i+1) (i+1),List.drop_of_length_le (by rw [List.length_take];omega)]
    rfl
  · omega
theorem SpI.miss {s:ByteArray} {o:List ByteArray} {fr i:Nat} (h:SpI s o fr i) (hi:i < s.size) (hb:s.data.getD i 0 ≠ 32):SpI s o fr (i+1):=by
  have hs:s.data.toList.length=s.size:=by rw [Array.length_toList];rfl
  obtain ⟨h0,⟨_,h2,h3⟩|⟨h2,_⟩⟩:=h
  · refine ⟨by omega,.inl ⟨hi,by omega,?_⟩⟩
    rw [take_snoc hi,words32_snoc _ _ _ _ h3,if_neg hb,ext_list,ext_list,take_snoc hi,List.drop_append_of_le_length (by rw [List.length_take];omega)]
  · omega
theorem SpI.done {s:ByteArray} {o:List ByteArray} {fr i:Nat} (h:SpI s o fr i) (hi:¬ i≤s.size):o=wordsB s:=by
  obtain ⟨_,⟨h1,_⟩|⟨_,h3⟩⟩:=h
  · omega
  · exact h3
theorem SpI.le {s:ByteArray} {o:List ByteArray} {fr i:Nat} (h:SpI s o fr i) (hi:i≤s.size):fr≤i∧o.length≤i:=by
  obtain ⟨h0,⟨_,h2,_⟩|⟨h2,_⟩⟩:=h
  · exact ⟨h2,h0⟩
  · omega
theorem strRows_app (o:List ByteArray) (x:ByteArray):strRows o++([]++[[D.s x]])=strRows (o++[x]):=by simp [strRows]
theorem snap3 {f:List (List D)→Int→Int→Snap} {r r' : List (List D)} {a a' b b' : Int} (h:r=r') (h2:a=a') (h3:b=b'):f r a b=f r' a' b' := by rw [h,h2,h3]
theorem byte_of {s:ByteArray} {i:Nat} {x:Bool} (h:(((s.data.getD (Int.toNat (i:Int)) 0).toNat:Int) == 32)=x):(x=true→s.data.getD i 0=32)∧(x=false→s.data.getD i 0 ≠ 32):=by
  rw [Int.toNat_natCast] at h
  refine ⟨fun hx=>?_,fun hx e=>?_⟩
  · rw [hx] at h
    have h2:((s.data.getD i 0).toNat:Int)=32:=eq_of_beq h
    have h3:(s.data.getD i 0).toNat=32:=by omega
    exact UInt8.toNat_inj.1 h3
  · rw [hx,e] at h
    exact absurd h (by decide)
end Go.Proofs.YtkpnfbdoaljkpaaGreatDoor.Ab
