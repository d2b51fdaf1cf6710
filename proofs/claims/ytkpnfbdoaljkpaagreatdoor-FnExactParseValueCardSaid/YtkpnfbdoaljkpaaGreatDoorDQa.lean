/- Small functions of ranges, -/
import Derived.Test.YtkpnfbdoaljkpaaGreatDoorDTa
import Derived.Lib.ItoaNum
import Derived.Lib.HexFns
import Derived.Lib.Join
import Derived.Lib.LaidTab
import Derived.Lib.AppendIntMem
import Derived.Lib.Atoi
namespace Go.Proofs.YtkpnfbdoaljkpaaGreatDoor.Ab
open Go.RowKit
set_option linter.unusedVariables false
set_option linter.unusedSimpArgs false
set_option maxRecDepth 100000
def inR (x lo hi:Int):Bool:=decide (lo≤x) && decide (x≤hi)
def spIn:FSpec where
  pre args:=∃ x lo hi:Int,args=[.val false [.i .i64 x],.val false [.i .i64 lo],.val false [.i .i64 hi]]
  res args:=match args with
    | [.val _ [.i _ x],.val _ [.i _ lo],.val _ [.i _ hi]]=>.val false [.b (inR x lo hi)]
    | _=>.none
def spNum:FSpec where
  pre args:=∃ x:Int,args=[.val false [.i .i64 x]]
  res args:=match args with
    | [.val _ [.i _ x]]=>.val false [.b (inR x (-1000000000) 1000000000)]
    | _=>.none
theorem resB {x y:Bool} (h:x=y):[CV.b x]=[CV.b y]:=by rw [h]
def okVal (a:List D):Bool :=
  (a.getD 4 default).rows.length == 0 && (a.getD 5 default).rows.length == 0 && (a.getD 6 default).rows.length == 0 && (a.getD 2 default).int == 0 && (a.getD 3 default).str.toList == [] &&
    (if (a.getD 0 default).int=1 then inR (a.getD 1 default).int (-1000000000) 1000000000 else inR (a.getD 1 default).int 1 8)
def itoaB (n:Int):ByteArray:=⟨(Lib.itoa n).toArray⟩
def joinT (xs:List ByteArray) (sep:ByteArray):ByteArray:=⟨(Lib.join (xs.map (·.data.toList)) sep.data.toList).toArray⟩
def strsOf (rows:List (List D)):List ByteArray:=rows.map fun r=>(r.getD 0 default).str
def strRows (xs:List ByteArray):List (List D):=xs.map fun x=>[.s x]
theorem strsOf_rows (xs:List ByteArray):strsOf (strRows xs)=xs:=by
  simp [strsOf,strRows,D.str,Function.comp_def]
def spItoa:FSpec where
  pre args:=∃ x:Int,args=[.val false [.i .i64 x]]
  res args:=match args with
    | [.val _ [.i _ x]]=>.val false [.s (itoaB x)]
    | _=>.none
def spJoin:FSpec where
  pre args:=∃ (rows:List (List D)) (sep:ByteArray),rows.length≤140737488355328∧(joinT (strsOf rows) sep).size≤140737488355328∧args=[argS 9 rows,.val false [.s sep]]
  res args:=match args with
    | [.val _ [.sl _ _ rows],.val _ [.s sep]]=>.val false [.s (joinT (strsOf rows) sep)]
    | _=>.none
theorem decDigits_len (u:Nat):(Lib.decDigits u).length≤u / 2+1:=by
  induction u using Nat.strongRecOn with
  | _ u ih =>
    rw [Lib.decDigits]
    split
    · simp
    · have:=ih (u / 10) (by omega)
      rw [List.length_append,List.length_singleton]
      omega
theorem itoaB_size (n:Int) (h:inK .i64 n):(itoaB n).size≤4611686018427387906:=by
  have h1:IntKind.i64.min = -9223372036854775808:=by decide
  have h2:IntKind.i64.max=9223372036854775807:=by decide
  rw [inK,h1,h2] at h
  show (Lib.itoa n).toArray.size≤_
  rw [List.size_toArray]
  unfold Lib.itoa
  split
  · have:=decDigits_len n.natAbs
    rw [List.length_cons]
    omega
  · have:=decDigits_len n.toNat
    omega
theorem resS {x y:ByteArray} (h:x=y):[CV.s x]=[CV.s y]:=by rw [h]
section
variable {P:Program} {T:Tab} {f:FuncId}
theorem RdR.int_v {w:World} {X:Nat→Prop} {k:IntKind} {v:Value} {d:D} (h:RdR T w X (.i k) v d):v=.int k d.int:=by cases h;rfl
theorem RdR.str_v {w:World} {X:Nat→Prop} {v:Value} {d:D} (h:RdR T w X .s v d):v=.string d.str:=by cases h;rfl
theorem FOk.text {s:FSpec} (hcall:∀ args w,(callFunc f args).run P w=.ok (.enter f args) w) (hbx:s.bx=false) (h:∀ (w:World) (X:Nat→Prop) (args:List SV) (vals:List Value),ArgsR T w X vals args→GlR T w X→s.pre args →
    ∃ t:ByteArray,t.size≤maxLen∧s.res args=.val false [.s t]∧Calls P f vals.toArray w fun e w' => e=.returned (.string t)∧Below w.heap.size w w'):FOk P T f s:=by
  refine ⟨hcall,fun hb=>(by rw [hbx] at hb;cases hb),fun _ w X args vals hX hargs hgl hpre=>?_,fun hb=>(by rw [hbx] at hb;cases hb)⟩
  obtain ⟨t,h1,h2,h3⟩:=h w X args vals hargs hgl hpre
  refine h3.mono fun e w' ⟨he,hb⟩=>⟨_,fun _=>noB,he,hb,?_,(fun j b h=>by cases h),(fun j j2 b h=>by cases h)⟩
  rw [h2]
  exact ⟨_,rfl,rfl,h1⟩
theorem ArgsR.one_ {w:World} {X:Nat→Prop} {vals:List Value} {c:CV} (h:ArgsR T w X vals [.val false [c]]):∃ v,vals=[v]∧ArgC T w X v c:=by
  obtain ⟨h1,h2⟩:=h
  match vals,h1 with
  | [v],_ =>
    obtain ⟨c',e,hc⟩:=h2 0 _ v rfl rfl
    obtain rfl:c=c' := by simpa using e
    exact ⟨v,rfl,hc⟩
theorem ArgsR.two_ {w:World} {X:Nat→Prop} {vals:List Value} {c d:CV} (h:ArgsR T w X vals [.val false [c],.val false [d]]):∃ v u,vals=[v,u]∧ArgC T w X v c∧ArgC T w X u d:=by
  obtain ⟨h1,h2⟩:=h
  match vals,h1 with
  | [v,u],_ =>
    obtain ⟨c',e,hc⟩:=h2 0 _ v rfl rfl
    obtain rfl:c=c' := by simpa using e
    obtain ⟨d',e,hd⟩:=h2 1 _ u rfl rfl
    obtain rfl:d=d' := by simpa using e
    exact ⟨v,u,rfl,hc,hd⟩
theorem tabIs_of {g:Nat} {name:String} {zs:List Int} {w:World} {X:Nat→Prop} (hg:P.globalNamed name=some g) (hm:(g,zs.map fun z=>(CT.i .u64,D.i z)) ∈ T.gl) (h:GlR T w X):Lib.TabIs P w name .u64 zs:=by
  obtain ⟨_,_,⟨cur,e,fz,h4,h5⟩,h3⟩:=h.1 _ hm
  unfold Lib.TabIs World.var?
  rw [hg]
  simp only [Option.bind_some,h4,Option.some.injEq]
  simp only [List.length_map] at h5
  refine Array.ext (by simpa using h5) fun i h6 h7=>?_
  have hi:i < zs.length:=by omega
  obtain ⟨u,hu,hr⟩:=h3 i (.i .u64,.i zs[i]) (by simp [hi])
  rw [cell_of_row _ _ _ cur e fz h4,Array.getElem?_eq_getElem h6] at hu
  obtain rfl:=Option.some.inj hu
  rw [show cur[i]=_ from hr.int_v]
  simp [D.int]
theorem itoa_ok (hcall:∀ args w,(callFunc f args).run P w=.ok (.enter f args) w) (ht:∀ {w:World} {X:Nat→Prop},GlR T w X→Lib.TabIs P w "internal/strconv.uint64pow10" .u64 Lib.pow10Tab)
    (h:∀ (n:Int) (h0:-9223372036854775808≤n) (h1:n≤9223372036854775807) (w:World) (htab:Lib.TabIs P w "internal/strconv.uint64pow10" .u64 Lib.pow10Tab),Calls P f #[.int .i64 n] w fun e w' => e=.returned (.string ⟨(Lib.itoa n).toArray⟩)∧Below w.heap.size w w'):FOk P T f spItoa:=by
  refine FOk.text hcall rfl fun w X args vals hargs hgl ⟨x,he⟩=>?_
  subst he
  obtain ⟨v,rfl,rfl,hk⟩:=hargs.one_
  have h1:IntKind.i64.min = -9223372036854775808:=by decide
  have h2:IntKind.i64.max=9223372036854775807:=by decide
  have hk' := hk
  rw [inK,h1,h2] at hk'
  exact ⟨itoaB x,by have:=itoaB_size x hk;simp only [maxLen];omega,rfl,h x hk'.1 hk'.2 w (ht hgl)⟩
theorem join_ok {te:Ty} (hte:T 9=some te) (hct:te.cts=[.s]) (hcall:∀ args w,(callFunc f args).run P w=.ok (.enter f args) w)
    (h0:∀ (a:Option Addr) (c:Nat) (sep:ByteArray) (w:World),Calls P f #[.slice a 0 c,.string sep] w fun e w' => e=.returned (.string ⟨#[]⟩)∧w' = w)
    (h:∀ (bk o c:Nat) (xs:List ByteArray) (sep:ByteArray) (w:World) (hcells:∀ (j:Nat) x,xs[j]? = some x→w.cell? ⟨bk,o+j,none⟩=some (.string x)) (hbk:bk < w.heap.size) (hN:xs.length≤140737488355328) (hcap:xs.length≤c) (hlen:(Lib.join (xs.map (·.data.toList)) sep.data.toList).length≤140737488355328),
      Calls P f #[.slice (some ⟨bk,o,none⟩) xs.length c,.string sep] w fun e w' => e=.returned (.string ⟨(Lib.join (xs.map (·.data.toList)) sep.data.toList).toArray⟩)∧Below w.heap.size w w'):FOk P T f spJoin:=by
  refine FOk.text hcall rfl fun w X args vals hargs hgl ⟨rows,sep,hn,hl,he⟩=>?_
  subst he
  obtain ⟨v,u,rfl,hv,rfl,hu⟩:=hargs.two_
  have hv' : RdR T w X (.l 9) v (.l rows):=hv
  refine ⟨joinT (strsOf rows) sep,by simp only [maxLen];omega,rfl,?_⟩
  cases hv' with
  | nil _ A c hc=>exact (h0 A c sep w).mono fun e w' ⟨a,b⟩=>⟨a,b ▸ Below.refl _ _⟩
  | sl _ ty b o c _ vs g1 g2 g3 g4 g5 g6 g7 g8 =>
    rw [hte] at g1
    obtain rfl:=Option.some.inj g1
    have hls:(strsOf rows).length=rows.length:=by simp [strsOf]
    rw [← hls]
    refine h b o c (strsOf rows) sep w (fun j x hj=>?_) g5 (by omega) (by omega) ?_
    · have hj' : j < rows.length:=by rw [← hls];exact (List.getElem?_eq_some_iff.1 hj).1
      have:=g6 j 0 hj' (by rw [hct];simp)
      rw [hct] at this
      simp only [List.length_cons,List.length_nil,Nat.zero_add,Nat.mul_one,Nat.add_zero] at this
      rw [this]
      have hlen:=g7 j rows[j] (List.getElem?_eq_getElem hj')
      rw [hct] at hlen
      obtain ⟨d,hd⟩:=List.length_eq_one_iff.1 hlen
      have hr:=g8 j 0 .s d rows[j] (List.getElem?_eq_getElem hj') (by rw [hct];rfl) (by rw [hd];rfl)
      have hx:(rows[j].getD 0 default).str=x:=by
        simp only [strsOf,List.getElem?_map,List.getElem?_eq_getElem hj',Option.map_some,Option.some.injEq] at hj
        exact hj
      rw [hd] at hx
      rw [hr.str_v, ← hx]
      rfl
    · have:(joinT (strsOf rows) sep).size=(Lib.join ((strsOf rows).map (·.data.toList)) sep.data.toList).length:=List.size_toArray
      omega
end
end Go.Proofs.YtkpnfbdoaljkpaaGreatDoor.Ab
namespace Go.Proofs.YtkpnfbdoaljkpaaGreatDoor.Ab
open Go.RowKit
set_option linter.unusedVariables false
def pre10 (u:Nat):List UInt8:=if u=0 then [] else Lib.decDigits u
theorem pre10_step {u:Nat} (h:u ≠ 0):pre10 u=pre10 (u / 10)++[UInt8.ofNat (48+u % 10)]:=by
  unfold pre10
  rw [if_neg h,Lib.decDigits]
  split
  · rename_i hu
    rw [if_pos (by omega),Nat.mod_eq_of_lt hu]
    rfl
  · rename_i hu
    rw [if_neg (by omega)]
theorem tdiv10 (y:Int):(y.tdiv 10).natAbs=y.natAbs / 10:=by rw [Int.natAbs_tdiv];rfl
theorem tmod10 (y:Int):(y.tmod 10).natAbs=y.natAbs % 10:=by rw [Int.natAbs_tmod];rfl
theorem tdiv10_sign (y:Int):(0≤y→0≤y.tdiv 10)∧(y≤0→y.tdiv 10≤0):=by
  refine ⟨fun h=>Int.tdiv_nonneg h (by decide),fun h=>?_⟩
  have:=Int.tdiv_nonneg (a:=-y) (b:=10) (by omega) (by decide)
  rw [Int.neg_tdiv] at this
  omega
def FI (x y:Int) (o:ByteArray):Prop:=pre10 y.natAbs++o.data.toList=Lib.decDigits x.natAbs∧(x < 0→y≤0)∧(0≤x→0≤y)∧y.natAbs≤x.natAbs
theorem FI.first {x:Int} (h:x ≠ 0):FI x x ⟨#[]⟩:=by
  refine ⟨?_,fun h=>by omega,fun h=>h,Nat.le_refl _⟩
  unfold pre10
  rw [if_neg (by omega)]
  simp
theorem FI.size {x y:Int} {o:ByteArray} (h:FI x y o) (hx:inK .i64 x):o.size≤4611686018427387906:=by
  have h1:IntKind.i64.min = -9223372036854775808:=by decide
  have h2:IntKind.i64.max=9223372036854775807:=by decide
  rw [inK,h1,h2] at hx
  have h3:=decDigits_len x.natAbs
  have h4:=congrArg List.length h.1
  rw [List.length_append] at h4
  have h5:o.data.toList.length=o.data.size:=Array.length_toList
  show o.data.size≤_
  omega
theorem FI.inK {x y:Int} {o:ByteArray} (h:FI x y o) (hx:Ab.inK .i64 x):Ab.inK .i64 y:=by
  have h1:IntKind.i64.min = -9223372036854775808:=by decide
  have h2:IntKind.i64.max=9223372036854775807:=by decide
  have h3:=h.2.2.2
  have h4:=h.2.1
  have h5:=h.2.2.1
  rw [Ab.inK,h1,h2] at hx ⊢
  omega
theorem FI.next {x y n:Int} {o:ByteArray} (h:FI x y o) (hy:y ≠ 0) (hn:n=48+(y.tmod 10).natAbs):FI x (y.tdiv 10) (bytesOf [[.i n]]++o):=by
  refine ⟨?_,fun hx=>(tdiv10_sign y).2 (h.2.1 hx),fun hx=>(tdiv10_sign y).1 (h.2.2.1 hx),by rw [tdiv10];have:=h.2.2.2;omega⟩
  have e:(bytesOf [[D.i n]]++o).data.toList=[UInt8.ofNat n.toNat]++o.data.toList:=by
    simp [bytesOf,D.int]
  rw [e,tdiv10, ← List.append_assoc, ← h.1,pre10_step (u:=y.natAbs) (by omega),hn,tmod10]
  congr 3
theorem FI.last {x y:Int} {o:ByteArray} (h:FI x y o) (hy:y=0):o.data.toList=Lib.decDigits x.natAbs:=by
  have:=h.1
  subst hy
  simpa [pre10] using this
theorem FI.neg {x y:Int} {o:ByteArray} (h:FI x y o) (hy:y=0) (hx:x < 0):(⟨#[45]⟩:ByteArray)++o=itoaB x:=by
  have h1:=h.last hy
  unfold itoaB Lib.itoa
  rw [if_pos hx, ← h1]
  apply ByteArray.ext
  apply Array.ext'
  simp
theorem FI.pos {x y:Int} {o:ByteArray} (h:FI x y o) (hy:y=0) (hx:¬ x < 0):o=itoaB x:=by
  have h1:=h.last hy
  have e:x.toNat=x.natAbs:=by omega
  unfold itoaB Lib.itoa
  rw [if_neg hx,e, ← h1]
theorem itoa_zero:(⟨#[48]⟩:ByteArray)=itoaB 0:=by
  unfold itoaB Lib.itoa
  rw [if_neg (by decide),show (0:Int).toNat=0 from rfl,Lib.decDigits]
  rfl
theorem FI.dig1 {x y:Int} {o:ByteArray} (h:FI x y o) (hd:¬ y.tmod 10 < 0):IntKind.u8.wrap (IntKind.i64.wrap (48+y.tmod 10))=48+(y.tmod 10).natAbs:=by
  have:=tmod10 y
  rw [IntKind.wrap_i64,IntKind.wrap_u8]
  omega
theorem FI.dig2 {x y:Int} {o:ByteArray} (h:FI x y o) (hd:y.tmod 10 < 0):IntKind.u8.wrap (IntKind.i64.wrap (48+IntKind.i64.wrap (0 - y.tmod 10)))=48+(y.tmod 10).natAbs:=by
  have:=tmod10 y
  rw [IntKind.wrap_i64,IntKind.wrap_i64,IntKind.wrap_u8]
  omega
theorem FI.quo {x y:Int} {o:ByteArray} (h:FI x y o) (hx:Ab.inK .i64 x):IntKind.i64.wrap (y.tdiv 10)=y.tdiv 10:=by
  have h1:IntKind.i64.min = -9223372036854775808:=by decide
  have h2:IntKind.i64.max=9223372036854775807:=by decide
  have h3:=h.inK hx
  have:=tdiv10 y
  rw [Ab.inK,h1,h2] at h3
  rw [IntKind.wrap_i64]
  omega
theorem size_le {a o:ByteArray} (h:a.size=1) (ho:o.size≤4611686018427387906):a.size+o.size≤maxLen:=by simp only [maxLen];omega
theorem snapS (f:Int→ByteArray→Snap) (s:ByteArray) {a b:Int} (h:a=b):f a s=f b s:=congrArg (fun z=>f z s) h
theorem tmod10_inK (y:Int):inK .i64 (y.tmod 10):=by
  have h1:IntKind.i64.min = -9223372036854775808:=by decide
  have h2:IntKind.i64.max=9223372036854775807:=by decide
  have:=tmod10 y
  rw [inK,h1,h2]
  omega
theorem joinTail_snoc (sep:List UInt8) (r:List (List UInt8)) (x:List UInt8):Lib.joinTail sep (r++[x])=Lib.joinTail sep r++(sep++x):=by simp [Lib.joinTail]
theorem join_snoc (xs:List (List UInt8)) (x sep:List UInt8):Lib.join (xs++[x]) sep=if xs=[] then x else Lib.join xs sep++(sep++x):=by
  cases xs with
  | nil=>rw [if_pos rfl];exact Lib.join_one x sep
  | cons y r =>
    rw [if_neg (by simp),List.cons_append,Lib.join_cons,Lib.join_cons,joinTail_snoc,List.append_assoc]
def jn (rows:List (List D)) (sep:ByteArray) (k:Nat):List UInt8:=Lib.join (((strsOf rows).take k).map (·.data.toList)) sep.data.toList
def byteRows (l:List UInt8):List (List D):=l.map fun b=>[.i (b.toNat:Int)]
theorem strs_at {rows:List (List D)} {k:Nat} (hk:k < rows.length):(strsOf rows)[k]? = some ((rows.getD k []).getD 0 default).str:=by
  simp [strsOf,List.getD_eq_getElem?_getD,List.getElem?_eq_getElem hk]
theorem jn_next {rows:List (List D)} {sep:ByteArray} {k:Nat} (hk:k < rows.length):jn rows sep (k+1)=if k=0 then ((rows.getD k []).getD 0 default).str.data.toList else jn rows sep k++(sep.data.toList++((rows.getD k []).getD 0 default).str.data.toList):=by
  unfold jn
  rw [List.take_add_one,strs_at hk,Option.toList_some,List.map_append,List.map_singleton,join_snoc]
  have:(((strsOf rows).take k).map (·.data.toList)=[]) ↔ k=0:=by
    rw [List.map_eq_nil_iff,List.take_eq_nil_iff]
    constructor
    · rintro (h|h)
      · exact h
      · have:rows.length=0:=by simpa [strsOf] using congrArg List.length h
        omega
    · exact .inl
  simp only [this]
theorem jn_mono {rows:List (List D)} {sep:ByteArray} {k:Nat} (hk:k < rows.length):(jn rows sep k).length≤(jn rows sep (k+1)).length:=by
  rw [jn_next hk]
  split
  · rename_i h
    subst h
    simp [jn,Lib.join_nil]
  · rw [List.length_append];omega
theorem jn_le {rows:List (List D)} {sep:ByteArray}:∀ {j k:Nat},j+k=rows.length→(jn rows sep j).length≤(jn rows sep rows.length).length
  | j,0,h=>by rw [show j=rows.length by omega];exact Nat.le_refl _
  | j,k+1,h=>Nat.le_trans (jn_mono (by omega)) (jn_le (j:=j+1) (k:=k) (by omega))
theorem jn_all (rows:List (List D)) (sep:ByteArray):(⟨(jn rows sep rows.length).toArray⟩:ByteArray)=joinT (strsOf rows) sep:=by
  unfold jn joinT
  rw [List.take_of_length_le (by simp [strsOf])]
theorem bytesOf_byteRows (l:List UInt8):bytesOf (byteRows l)=⟨l.toArray⟩:=by
  have:((byteRows l).map fun r=>UInt8.ofNat (r.getD 0 default).int.toNat)=l:=by simp [byteRows,D.int,Function.comp_def]
  unfold bytesOf
  rw [this]
theorem byteRows_append (a b:List UInt8):byteRows (a++b)=byteRows a++byteRows b:=List.map_append
theorem byteRows_length (a:List UInt8):(byteRows a).length=a.length:=List.length_map _
theorem bytesD_eq (s:ByteArray):bytesD s=byteRows s.data.toList:=rfl
theorem snapR (f:List (List D)→Int→Snap) {r r' : List (List D)} {a b:Int} (h:r=r') (h2:a=b):f r a=f r' b:=by rw [h,h2]
def errs:List ByteArray:=[⟨#[]⟩,⟨#[109,105,115,115,105,110,103]⟩,⟨#[100,117,112,108,105,99,97,116,101]⟩,⟨#[99,121,99,108,101]⟩,⟨#[116,121,112,101]⟩,⟨#[114,97,110,103,101]⟩,⟨#[108,105,109,105,116]⟩,⟨#[99,111,108,117,109,110]⟩,⟨#[115,121,110,116,97,120]⟩]
def errB (c:Int):ByteArray:=errs.getD c.toNat ⟨#[]⟩
theorem errB_size (c:Int):(errB c).size≤9:=by
  unfold errB
  by_cases h:c.toNat < 9
  · have:∀ n < 9,(errs.getD n ⟨#[]⟩).size≤9:=by decide
    exact this _ h
  · rw [List.getD_eq_getElem?_getD,List.getElem?_eq_none (by simp [errs];omega)]
    decide
theorem errs_at {x:Int} (h0:1≤x) (h1:x≤8):(((strRows errs).getD x.toNat []).getD 0 default).str=errB x:=by
  have:∀ n < 9,(((strRows errs).getD n []).getD 0 default).str=errs.getD n ⟨#[]⟩:=by
    intro n hn
    match n,hn with
    | 0,_=>rfl
    | 1,_=>rfl
    | 2,_=>rfl
    | 3,_=>rfl
    | 4,_=>rfl
    | 5,_=>rfl
    | 6,_=>rfl
    | 7,_=>rfl
    | 8,_=>rfl
  exact this _ (by omega)
theorem errs_at' {x:Int} (h0:1≤x) (h1:x≤8):(((strRows errs.tail).getD (IntKind.i64.wrap (x - 1)).toNat []).getD 0 default).str=errB x:=by
  have:∀ n < 8,(((strRows errs.tail).getD n []).getD 0 default).str=errs.getD (n+1) ⟨#[]⟩:=by
    intro n hn
    match n,hn with
    | 0,_=>rfl
    | 1,_=>rfl
    | 2,_=>rfl
    | 3,_=>rfl
    | 4,_=>rfl
    | 5,_=>rfl
    | 6,_=>rfl
    | 7,_=>rfl
  rw [show (IntKind.i64.wrap (x - 1)).toNat=x.toNat - 1 by rw [IntKind.wrap_i64];omega,this _ (by omega)]
  unfold errB
  rw [show x.toNat - 1+1=x.toNat by omega]
def spErr:FSpec where
  pre args:=∃ x:Int,1≤x∧x≤8∧args=[.val false [.i .i64 x]]
  res args:=match args with
    | [.val _ [.i _ x]]=>.val false [.s (errB x)]
    | _=>.none
def spErrs:FSpec where
  pre args:=args=[]
  res _:=argS 9 (strRows errs)
def GoodV (a:List D):Prop:=(a.getD 5 default).rows.length+(a.getD 6 default).rows.length≤4611686018427387904∧((a.getD 0 default).int=1∨(a.getD 0 default).int=6)∧okVal a=true
theorem GoodV.err {a:List D} (h:GoodV a) (h6:(a.getD 0 default).int=6):1≤(a.getD 1 default).int∧(a.getD 1 default).int≤8:=by
  have:=h.2.2
  unfold okVal at this
  rw [if_neg (by rw [h6];decide)] at this
  simp only [Bool.and_eq_true,inR,decide_eq_true_eq] at this
  exact this.2
end Go.Proofs.YtkpnfbdoaljkpaaGreatDoor.Ab
namespace Go.Proofs.YtkpnfbdoaljkpaaGreatDoor.Ab
open Go
theorem decFrom_app:∀ (l r:List UInt8) (acc:Nat),Lib.decFrom acc (l++r)=(Lib.decFrom acc l).bind fun m=>Lib.decFrom m r
  | [],r,acc=>rfl
  | b :: l,r,acc=>by
    simp only [List.cons_append,Lib.decFrom]
    cases Lib.digitVal b with
    | none=>rfl
    | some d=>exact decFrom_app l r _
theorem digit_of {u:Nat} (h:u < 10):Lib.digitVal (UInt8.ofNat (48+u))=some u:=by
  have e:(UInt8.ofNat (48+u)).toNat=48+u:=by
    rw [UInt8.toNat_ofNat',Nat.mod_eq_of_lt (by omega)]
  unfold Lib.digitVal
  rw [e,if_pos (by omega)]
  congr 1
  omega
theorem digits_ne (u:Nat):Lib.decDigits u ≠ []:=by
  rw [Lib.decDigits]
  split
  · simp
  · simp
theorem digits_back (u:Nat):Lib.decFrom 0 (Lib.decDigits u)=some u:=by
  induction u using Nat.strongRecOn with
  | _ u ih =>
    rw [Lib.decDigits]
    split
    · rename_i h
      simp only [Lib.decFrom,digit_of h]
      simp
    · rename_i h
      rw [decFrom_app,ih (u / 10) (by omega),Option.bind_some]
      simp only [Lib.decFrom,digit_of (Nat.mod_lt u (by decide:0 < 10))]
      congr 1
      omega
theorem digits_mem (u:Nat):∀ b ∈ Lib.decDigits u,48≤b.toNat∧b.toNat≤57:=by
  induction u using Nat.strongRecOn with
  | _ u ih =>
    intro b hb
    rw [Lib.decDigits] at hb
    split at hb
    · rename_i h
      rw [List.mem_singleton.1 hb,UInt8.toNat_ofNat',Nat.mod_eq_of_lt (by omega)]
      omega
    · rename_i h
      rcases List.mem_append.1 hb with hb|hb
      · exact ih (u / 10) (by omega) b hb
      · have:=Nat.mod_lt u (by decide:0 < 10)
        rw [List.mem_singleton.1 hb,UInt8.toNat_ofNat',Nat.mod_eq_of_lt (by omega)]
        omega
theorem decNat_back (u:Nat):Lib.decNat (Lib.decDigits u)=some u:=by
  unfold Lib.decNat
  have:(Lib.decDigits u).isEmpty=false:=by
    cases h:Lib.decDigits u with
    | nil=>exact absurd h (digits_ne u)
    | cons b l=>rfl
  rw [this]
  exact digits_back u
theorem atoi_itoa (n:Int):Lib.atoi (Lib.itoa n)=some n:=by
  unfold Lib.itoa
  split
  · rename_i h
    unfold Lib.atoi
    simp only []
    rw [if_pos (by decide),decNat_back,Option.map_some]
    congr 1
    omega
  · rename_i h
    cases hd:Lib.decDigits n.toNat with
    | nil=>exact absurd hd (digits_ne _)
    | cons b r =>
      have hm:=digits_mem n.toNat b (by rw [hd];exact List.mem_cons_self ..)
      have h45:(b == 45)=false:=by
        rw [beq_eq_false_iff_ne]
        intro e
        rw [e] at hm
        exact absurd hm (by decide)
      have h43:(b == 43)=false:=by
        rw [beq_eq_false_iff_ne]
        intro e
        rw [e] at hm
        exact absurd hm (by decide)
      unfold Lib.atoi
      simp only []
      rw [if_neg (by rw [h45];decide),if_neg (by rw [h43];decide), ← hd,decNat_back]
      show some ((n.toNat:Nat):Int)=some n
      congr 1
      omega
def words32:List UInt8→List (List UInt8)
  | []=>[[]]
  | b :: r=>if b=32 then [] :: words32 r else match words32 r with
    | w :: ws=>(b :: w) :: ws
    | []=>[[b]]
theorem words32_ne:∀ l,words32 l ≠ []
  | []=>by simp [words32]
  | b :: r=>by
    unfold words32
    split
    · simp
    · split
      · simp
      · simp
theorem words32_app:∀ (w l:List UInt8),(∀ b ∈ w,b ≠ 32)→∀ x xs,words32 l=x :: xs→words32 (w++l)=(w++x) :: xs
  | [],l,_,x,xs,h=>h
  | b :: w,l,hw,x,xs,h=>by
    have ih:=words32_app w l (fun c hc=>hw c (List.mem_cons_of_mem _ hc)) x xs h
    rw [List.cons_append,words32,if_neg (hw b (List.mem_cons_self ..)),ih]
    rfl
theorem words32_space (l:List UInt8):words32 (32 :: l)=[] :: words32 l:=by
  rw [words32,if_pos rfl]
theorem words32_tail:∀ ws:List (List UInt8),(∀ w ∈ ws, ∀ b ∈ w,b ≠ 32)→words32 (Lib.joinTail [32] ws)=[] :: ws
  | [],_=>rfl
  | w :: ws,h=>by
    have ih:=words32_tail ws fun x hx=>h x (List.mem_cons_of_mem _ hx)
    show words32 (32 :: (w++Lib.joinTail [32] ws))=_
    rw [words32_space,words32_app w _ (h w (List.mem_cons_self ..)) _ _ ih,List.append_nil]
theorem words32_join {ws:List (List UInt8)} (hne:ws ≠ []) (h:∀ w ∈ ws, ∀ b ∈ w,b ≠ 32):words32 (Lib.join ws [32])=ws:=by
  cases ws with
  | nil=>exact absurd rfl hne
  | cons w ws =>
    have ih:=words32_tail ws fun x hx=>h x (List.mem_cons_of_mem _ hx)
    rw [Lib.join_cons,words32_app w _ (h w (List.mem_cons_self ..)) _ _ ih,List.append_nil]
theorem words32_snoc:∀ (l:List UInt8) (out:List (List UInt8)) (w:List UInt8) (b:UInt8),words32 l=out++[w]→words32 (l++[b])=if b=32 then out++[w]++[[]] else out++[w++[b]]
  | [], out,w,b,h=>by
    have h' : out=[]∧w=[]:=by
      cases out with
      | nil=>simpa [words32,eq_comm] using h
      | cons x out =>
        have:=congrArg List.length h
        simp [words32] at this
    obtain ⟨rfl,rfl⟩:=h'
    by_cases hb:b=32
    · subst hb;rfl
    · rw [if_neg hb]
      show words32 [b]=[[b]]
      rw [words32,if_neg hb]
      rfl
  | a :: l,out,w,b,h=>by
    obtain ⟨o2,w2,e2⟩:∃ o2 w2,words32 l=o2++[w2]:=by
      have:=words32_ne l
      exact ⟨(words32 l).dropLast,(words32 l).getLast this,(List.dropLast_concat_getLast this).symm⟩
    have ih:=words32_snoc l o2 w2 b e2
    rw [List.cons_append,words32]
    rw [words32] at h
    by_cases ha:a=32
    · rw [if_pos ha] at h ⊢
      rw [e2] at h
      have h2:([] :: o2)++[w2]=out++[w]:=h
      have h3:=List.append_inj' h2 rfl
      obtain ⟨h4,h5⟩:=h3
      have h6:w2=w:=by simpa using h5
      subst h4
      subst h6
      rw [ih]
      by_cases hb:b=32
      · rw [if_pos hb,if_pos hb];rfl
      · rw [if_neg hb,if_neg hb];rfl
    · rw [if_neg ha] at h ⊢
      cases o2 with
      | nil =>
        rw [e2] at h
        have h2:[]++[a :: w2]=out++[w]:=h
        obtain ⟨h4,h5⟩:=List.append_inj' h2 rfl
        have h6:a :: w2=w:=by simpa using h5
        subst h4
        subst h6
        rw [ih]
        by_cases hb:b=32
        · rw [if_pos hb,if_pos hb];rfl
        · rw [if_neg hb,if_neg hb];rfl
      | cons x o2 =>
        rw [e2] at h
        have h2:((a :: x) :: o2)++[w2]=out++[w]:=h
        obtain ⟨h4,h5⟩:=List.append_inj' h2 rfl
        have h6:w2=w:=by simpa using h5
        subst h4
        subst h6
        rw [ih]
        by_cases hb:b=32
        · rw [if_pos hb,if_pos hb];rfl
        · rw [if_neg hb,if_neg hb];rfl
end Go.Proofs.YtkpnfbdoaljkpaaGreatDoor.Ab
