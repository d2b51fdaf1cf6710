/- A part. -/
import Derived.Test.YtdjfhmghebommaaGreatDoorDTa
import Derived.Lib.HexFns
import Derived.Lib.Join
import Derived.Lib.AppendIntMem
import Derived.Lib.Atoi
namespace Go.Proofs.YtdjfhmghebommaaGreatDoor.Ab
open Go.RowKit
set_option linter.all false
set_option maxRecDepth 100000
def inR (x lo hi:Int):Bool:=decide (lo≤x) && decide (x≤hi)
def spIn:FSpec where
 pre args:=∃ x lo hi:Int,args=[.val false [.i .i64 x],.val false [.i .i64 lo],.val false [.i .i64 hi]]
 res args:=match args with
  | [.val _ [.i _ x],.val _ [.i _ lo],.val _ [.i _ hi]]=>.val false [.b (inR x lo hi)]
  | _=>.none
def jb:FSpec where
 pre args:=∃ x:Int,args=[.val false [.i .i64 x]]
 res args:=match args with
  | [.val _ [.i _ x]]=>.val false [.b (inR x (-1000000000) 1000000000)]
  | _=>.none
theorem resB {x y:Bool} (h:x=y):[CV.b x]=[CV.b y]:=by rw [h]
theorem snapN {i:Int} {n:Nat} (f:Int→Int→Snap) (z:Int) (h0:0≤i) (hi:i < n) (hn:n≤maxLen):f z (IntKind.i64.wrap (i+1))=f z (i+1):=congrArg (f z) (aC h0 hi hn)
def okVal (a:List D):Bool :=
 (a.getD 4 default).rows.length == 0 && (a.getD 5 default).rows.length == 0 && (a.getD 6 default).rows.length == 0 && (a.getD 2 default).int == 0 && (a.getD 3 default).str.toList == [] &&
   (if (a.getD 0 default).int=1 then inR (a.getD 1 default).int (-1000000000) 1000000000 else inR (a.getD 1 default).int 1 8)
theorem joinB {P:Program} {T:Tab} {f:FuncId} {pre pre' : List SV→Prop} {e:List SV→Bool} (h:∃ g:List SV→Bool,FOk P T f { pre:=pre,res:=fun args=>.val false [.b (g args)] }) (h' : FOk P T f { pre:=pre',res:=fun args=>.val false [.b (e args)] }) :
 ∃ g:List SV→Bool,FOk P T f { pre:=pre,res:=fun args=>.val false [.b (g args)] }∧∀ args,pre' args→g args=e args:=by
 classical
 obtain ⟨g,hg⟩:=h
 refine ⟨fun args=>if pre' args then e args else g args,⟨hg.1,(fun hb=>by cases hb),fun _ w X args vals hX hargs hgl hpre=>?_,(fun hb=>by cases hb)⟩,fun args hp=>if_pos hp⟩
 by_cases hp:pre' args
 · have:=h'.ok rfl w X args vals hX hargs hgl hp
   simp only
   rw [if_pos hp]
   exact this
 · have:=hg.ok rfl w X args vals hX hargs hgl hpre
   simp only
   rw [if_neg hp]
   exact this
def aH (n:Int):ByteArray:=⟨(Lib.itoa n).toArray⟩
def encB (s:ByteArray):ByteArray:=if s.data.toList=[] then ⟨#[45]⟩ else ⟨(Lib.Hx.encode s.data.toList).toArray⟩
def bg (xs:List ByteArray) (sep:ByteArray):ByteArray:=⟨(Lib.join (xs.map (·.data.toList)) sep.data.toList).toArray⟩
def strsOf (rows:List (List D)):List ByteArray:=rows.map fun r=>(r.getD 0 default).str
def ae (xs:List ByteArray):List (List D):=xs.map fun x=>[.s x]
theorem aP (xs:List ByteArray):strsOf (ae xs)=xs:=by
 simp [strsOf,ae,D.str,Function.comp_def]
def c7:FSpec where
 pre args:=∃ x:Int,args=[.val false [.i .i64 x]]
 res args:=match args with
  | [.val _ [.i _ x]]=>.val false [.s (aH x)]
  | _=>.none
def uS:FSpec where
 pre args:=∃ s:ByteArray,s.size≤70368744177664∧args=[.val false [.s s]]
 res args:=match args with
  | [.val _ [.s s]]=>.val false [.s (encB s)]
  | _=>.none
def xM (e:TypeId):FSpec where
 pre args:=∃ s:ByteArray,s.data.toList ≠ []∧s.size≤70368744177664∧args=[argS e (bytesD s)]
 res args:=match args with
  | [.val _ [.sl _ _ rows]]=>.val false [.s ⟨(Lib.Hx.encode (bytesOf rows).data.toList).toArray⟩]
  | _=>.none
def spJoin:FSpec where
 pre args:=∃ (rows:List (List D)) (sep:ByteArray),rows.length≤140737488355328∧(bg (strsOf rows) sep).size≤140737488355328∧args=[argS 9 rows,.val false [.s sep]]
 res args:=match args with
  | [.val _ [.sl _ _ rows],.val _ [.s sep]]=>.val false [.s (bg (strsOf rows) sep)]
  | _=>.none
theorem fI (s:ByteArray):bytesOf (bytesD s)=s:=by
 have:((bytesD s).map fun r=>UInt8.ofNat (r.getD 0 default).int.toNat)=s.data.toList:=by
  simp [bytesD,D.int,Function.comp_def]
 unfold bytesOf
 rw [this]
theorem ef (u:Nat):(Lib.decDigits u).length≤u / 2+1:=by
 induction u using Nat.strongRecOn with
 | _ u ih =>
   rw [Lib.decDigits]
   split
   · simp
   · have:=ih (u / 10) (by omega)
     rw [jbQ,jc0]
     omega
theorem qW (n:Int) (h:inK .i64 n):(aH n).size≤4611686018427387906:=by
 have h1:IntKind.i64.min = -9223372036854775808:=by decide
 have h2:IntKind.i64.max=9223372036854775807:=by decide
 rw [inK,h1,h2] at h
 show (Lib.itoa n).toArray.size≤_
 rw [jcm]
 unfold Lib.itoa
 split
 · have:=ef n.natAbs
   rw [jb3]
   omega
 · have:=ef n.toNat
   omega
theorem tY (s:ByteArray):(encB s).size≤2 * s.size+1:=by
 unfold encB
 split
 · show #[45].size≤_;simp
 · show (Lib.Hx.encode s.data.toList).toArray.size≤_
   rw [jcm,Lib.Hx.encode_length]
   show 2 * s.data.toList.length≤2 * s.data.size+1
   rw [jb5];omega
theorem pB {s:ByteArray} (h:(s.toList == (⟨#[]⟩:ByteArray).toList)=true):s.data.toList=[]:=by
 rw [ByteArray.toList_eq,ByteArray.toList_eq] at h
 simpa using h
theorem gt {s:ByteArray} (h:(s.toList == (⟨#[]⟩:ByteArray).toList)=false):s.data.toList ≠ []:=by
 rw [ByteArray.toList_eq,ByteArray.toList_eq] at h
 simpa using h
theorem tZ {s:ByteArray} (h:s.data.toList=[]):encB s=⟨#[45]⟩:=if_pos h
theorem qh {s:ByteArray} (h:s.data.toList ≠ []):encB s=⟨(Lib.Hx.encode s.data.toList).toArray⟩:=if_neg h
theorem resS {x y:ByteArray} (h:x=y):[CV.s x]=[CV.s y]:=by rw [h]
section
variable {P:Program} {T:Tab} {f:FuncId}
theorem RdR.int_v {w:World} {X:Nat→Prop} {k:IntKind} {v:Value} {d:D} (h:RdR T w X (.i k) v d):v=.int k d.int:=by cases h;rfl
theorem RdR.str_v {w:World} {X:Nat→Prop} {v:Value} {d:D} (h:RdR T w X .s v d):v=.string d.str:=by cases h;rfl
theorem FOk.text {s:FSpec} (hcall:∀ args w,(callFunc f args).run P w=.ok (.enter f args) w) (hbx:s.bx=false) (h:∀ (w:World) (X:Nat→Prop) (args:List SV) (vals:List Value),ArgsR T w X vals args→GlR T w X→s.pre args →
 ∃ t:ByteArray,t.size≤maxLen∧s.res args=.val false [.s t]∧Calls P f vals.toArray w fun e w' => e=.returned (.string t)∧Below w.heap.size w w'):FOk P T f s:=by
 refine ⟨hcall,fun hb=>(by rw [hbx] at hb;cases hb),fun _ w X args vals hX hargs hgl hpre=>?_,fun hb=>(by rw [hbx] at hb;cases hb)⟩
 obtain ⟨t,h1,h2,h3⟩:=h w X args vals hargs hgl hpre
 refine h3.mono fun e w' ⟨he,hb⟩=>⟨_,fun _=>noB,he,hb,?_,(fun j b h=>by cases h),(fun j j2 b h=>by cases h)⟩
 rw [h2]
 exact ⟨_,rfl,rfl,h1⟩
theorem ArgsR.one_ {w:World} {X:Nat→Prop} {vals:List Value} {c:CV} (h:ArgsR T w X vals [.val false [c]]):∃ v,vals=[v]∧ArgC T w X v c:=by
 obtain ⟨h1,h2⟩:=h
 match vals,h1 with
 | [v],_ =>
   obtain ⟨c',e,hc⟩:=h2 0 _ v rfl rfl
   obtain rfl:c=c' := by simpa using e
   exact ⟨v,rfl,hc⟩
theorem ArgsR.two_ {w:World} {X:Nat→Prop} {vals:List Value} {c d:CV} (h:ArgsR T w X vals [.val false [c],.val false [d]]):∃ v u,vals=[v,u]∧ArgC T w X v c∧ArgC T w X u d:=by
 obtain ⟨h1,h2⟩:=h
 match vals,h1 with
 | [v,u],_ =>
   obtain ⟨c',e,hc⟩:=h2 0 _ v rfl rfl
   obtain rfl:c=c' := by simpa using e
   obtain ⟨d',e,hd⟩:=h2 1 _ u rfl rfl
   obtain rfl:d=d' := by simpa using e
   exact ⟨v,u,rfl,hc,hd⟩
theorem uM {g:Nat} {name:String} {zs:List Int} {w:World} {X:Nat→Prop} (hg:P.globalNamed name=some g) (hm:(g,zs.map fun z=>(CT.i .u64,D.i z)) ∈ T.gl) (h:GlR T w X):Lib.TabIs P w name .u64 zs:=by
 obtain ⟨_,_,⟨cur,e,fz,h4,h5⟩,h3⟩:=h.1 _ hm
 unfold Lib.TabIs World.var?
 rw [hg]
 simp only [jdM,h4,jcp]
 simp only [jb0] at h5
 refine Array.ext (by simpa using h5) fun i h6 h7=>?_
 have hi:i < zs.length:=by omega
 obtain ⟨u,hu,hr⟩:=h3 i (.i .u64,.i zs[i]) (by simp [hi])
 rw [cell_of_row _ _ _ cur e fz h4,jcq h6] at hu
 obtain rfl:=jbR hu
 rw [show cur[i]=_ from hr.int_v]
 simp [D.int]
theorem yu (hcall:∀ args w,(callFunc f args).run P w=.ok (.enter f args) w) (ht:∀ {w:World} {X:Nat→Prop},GlR T w X→Lib.TabIs P w "internal/strconv.uint64pow10" .u64 Lib.pow10Tab)
 (h:∀ (n:Int) (h0:-9223372036854775808≤n) (h1:n≤9223372036854775807) (w:World) (htab:Lib.TabIs P w "internal/strconv.uint64pow10" .u64 Lib.pow10Tab),Calls P f #[.int .i64 n] w fun e w' => e=.returned (.string ⟨(Lib.itoa n).toArray⟩)∧Below w.heap.size w w'):FOk P T f c7:=by
 refine FOk.text hcall rfl fun w X args vals hargs hgl ⟨x,he⟩=>?_
 subst he
 obtain ⟨v,rfl,rfl,hk⟩:=hargs.one_
 have h1:IntKind.i64.min = -9223372036854775808:=by decide
 have h2:IntKind.i64.max=9223372036854775807:=by decide
 have hk' := hk
 rw [inK,h1,h2] at hk'
 exact ⟨aH x,by have:=qW x hk;simp only [maxLen];omega,rfl,h x hk'.1 hk'.2 w (ht hgl)⟩
theorem jbd {e:TypeId} {te:Ty} (hte:T e=some te) (hct:te.cts=[.i .u8]) (hcall:∀ args w,(callFunc f args).run P w=.ok (.enter f args) w)
 (h:∀ (bs os cs:Nat) (l:List UInt8) (w:World) (hsrc:∀ i (h:i < l.length),w.cell? ⟨bs,os+i,none⟩=some (.int .u8 ((l[i]'h).toNat:Int))) (hb:bs < w.heap.size) (hbig:2 * l.length≤281474976710656),
   Calls P f #[.slice (some ⟨bs,os,none⟩) l.length cs] w fun e w' => e=.returned (.string ⟨(Lib.Hx.encode l).toArray⟩)∧Below w.heap.size w w'):FOk P T f (xM e):=by
 refine FOk.text hcall rfl fun w X args vals hargs hgl ⟨s,hne,hs,he⟩=>?_
 subst he
 obtain ⟨v,rfl,hv⟩:=hargs.one_
 have hv' : RdR T w X (.l e) v (.l (bytesD s)):=hv
 refine ⟨⟨(Lib.Hx.encode s.data.toList).toArray⟩,?_,?_,?_⟩
 · show (Lib.Hx.encode s.data.toList).toArray.size≤maxLen
   have:s.data.toList.length=s.size:=by rw [jb5];rfl
   rw [jcm,Lib.Hx.encode_length,this]
   simp only [maxLen];omega
 · show SV.val false [CV.s ⟨(Lib.Hx.encode (bytesOf (bytesD s)).data.toList).toArray⟩]=_
   rw [fI]
 · generalize hl:bytesD s=rows at hv'
   cases hv' with
   | nil _ A c hc =>
     have:s.size=0:=by rw [← bp,hl];rfl
     exact absurd (jcl.1 (by rw [jb5];exact this)) hne
   | sl _ ty b o c _ vs g1 g2 g3 g4 g5 g6 g7 g8 =>
     rw [hte] at g1
     obtain rfl:=jbR g1
     have hlen:rows.length=s.data.toList.length:=by rw [← hl,bp,jb5];rfl
     rw [hlen]
     refine h b o c s.data.toList w (fun i hi=>?_) g5 (by rw [← hlen, ← hl,bp];omega)
     have:=g6 i 0 (by omega) (by rw [hct];simp)
     rw [hct] at this
     simp only [jb3,jcc,jcv,jdw,jdr] at this
     rw [this]
     have hrow:rows[i]? = some [.i ((s.data.toList[i]).toNat:Int)]:=by
      rw [← hl];simp only [bytesD,jcf,jbN hi];rfl
     have hr:=g8 i 0 (.i .u8) _ _ hrow (by rw [hct];rfl) rfl
     exact congrArg some hr.int_v
theorem yr {te:Ty} (hte:T 9=some te) (hct:te.cts=[.s]) (hcall:∀ args w,(callFunc f args).run P w=.ok (.enter f args) w)
 (h0:∀ (a:Option Addr) (c:Nat) (sep:ByteArray) (w:World),Calls P f #[.slice a 0 c,.string sep] w fun e w' => e=.returned (.string ⟨#[]⟩)∧w' = w)
 (h:∀ (bk o c:Nat) (xs:List ByteArray) (sep:ByteArray) (w:World) (hcells:∀ (j:Nat) x,xs[j]? = some x→w.cell? ⟨bk,o+j,none⟩=some (.string x)) (hbk:bk < w.heap.size) (hN:xs.length≤140737488355328) (hcap:xs.length≤c) (hlen:(Lib.join (xs.map (·.data.toList)) sep.data.toList).length≤140737488355328),
   Calls P f #[.slice (some ⟨bk,o,none⟩) xs.length c,.string sep] w fun e w' => e=.returned (.string ⟨(Lib.join (xs.map (·.data.toList)) sep.data.toList).toArray⟩)∧Below w.heap.size w w'):FOk P T f spJoin:=by
 refine FOk.text hcall rfl fun w X args vals hargs hgl ⟨rows,sep,hn,hl,he⟩=>?_
 subst he
 obtain ⟨v,u,rfl,hv,rfl,hu⟩:=hargs.two_
 have hv' : RdR T w X (.l 9) v (.l rows):=hv
 refine ⟨bg (strsOf rows) sep,by simp only [maxLen];omega,rfl,?_⟩
 cases hv' with
 | nil _ A c hc=>exact (h0 A c sep w).mono fun e w' ⟨a,b⟩=>⟨a,b ▸ Below.refl _ _⟩
 | sl _ ty b o c _ vs g1 g2 g3 g4 g5 g6 g7 g8 =>
   rw [hte] at g1
   obtain rfl:=jbR g1
   have hls:(strsOf rows).length=rows.length:=by simp [strsOf]
   rw [← hls]
   refine h b o c (strsOf rows) sep w (fun j x hj=>?_) g5 (by omega) (by omega) ?_
   · have hj' : j < rows.length:=by rw [← hls];exact (jbY.1 hj).1
     have:=g6 j 0 hj' (by rw [hct];simp)
     rw [hct] at this
     simp only [jb3,jcc,jcv,jdw,jdr] at this
     rw [this]
     have hlen:=g7 j rows[j] (jbN hj')
     rw [hct] at hlen
     obtain ⟨d,hd⟩:=jdD.1 hlen
     have hr:=g8 j 0 .s d rows[j] (jbN hj') (by rw [hct];rfl) (by rw [hd];rfl)
     have hx:(rows[j].getD 0 default).str=x:=by
      simp only [strsOf,jcf,jbN hj',jc2,jcp] at hj
      exact hj
     rw [hd] at hx
     rw [hr.str_v, ← hx]
     rfl
   · have:(bg (strsOf rows) sep).size=(Lib.join ((strsOf rows).map (·.data.toList)) sep.data.toList).length:=jcm
     omega
end
def qP (u:Nat):List UInt8:=if u=0 then [] else Lib.decDigits u
theorem qO {u:Nat} (h:u ≠ 0):qP u=qP (u / 10)++[UInt8.ofNat (48+u % 10)]:=by
 unfold qP
 rw [if_neg h,Lib.decDigits]
 split
 · rename_i hu
   rw [if_pos (by omega),jdh hu]
   rfl
 · rename_i hu
   rw [if_neg (by omega)]
theorem pA (y:Int):(y.tdiv 10).natAbs=y.natAbs / 10:=by rw [Int.natAbs_tdiv];rfl
theorem px (y:Int):(y.tmod 10).natAbs=y.natAbs % 10:=by rw [Int.natAbs_tmod];rfl
theorem jJ (y:Int):(0≤y→0≤y.tdiv 10)∧(y≤0→y.tdiv 10≤0):=by
 refine ⟨fun h=>Int.tdiv_nonneg h (by decide),fun h=>?_⟩
 have:=Int.tdiv_nonneg (a:=-y) (b:=10) (by omega) (by decide)
 rw [Int.neg_tdiv] at this
 omega
def FI (x y:Int) (o:ByteArray):Prop:=qP y.natAbs++o.data.toList=Lib.decDigits x.natAbs∧(x < 0→y≤0)∧(0≤x→0≤y)∧y.natAbs≤x.natAbs
theorem FI.first {x:Int} (h:x ≠ 0):FI x x ⟨#[]⟩:=by
 refine ⟨?_,fun h=>by omega,fun h=>h,jb4 _⟩
 unfold qP
 rw [if_neg (by omega)]
 simp
theorem FI.size {x y:Int} {o:ByteArray} (h:FI x y o) (hx:inK .i64 x):o.size≤4611686018427387906:=by
 have h1:IntKind.i64.min = -9223372036854775808:=by decide
 have h2:IntKind.i64.max=9223372036854775807:=by decide
 rw [inK,h1,h2] at hx
 have h3:=ef x.natAbs
 have h4:=congrArg List.length h.1
 rw [jbQ] at h4
 have h5:o.data.toList.length=o.data.size:=jb5
 show o.data.size≤_
 omega
theorem FI.inK {x y:Int} {o:ByteArray} (h:FI x y o) (hx:Ab.inK .i64 x):Ab.inK .i64 y:=by
 have h1:IntKind.i64.min = -9223372036854775808:=by decide
 have h2:IntKind.i64.max=9223372036854775807:=by decide
 have h3:=h.2.2.2
 have h4:=h.2.1
 have h5:=h.2.2.1
 rw [Ab.inK,h1,h2] at hx ⊢
 omega
theorem FI.next {x y n:Int} {o:ByteArray} (h:FI x y o) (hy:y ≠ 0) (hn:n=48+(y.tmod 10).natAbs):FI x (y.tdiv 10) (bytesOf [[.i n]]++o):=by
 refine ⟨?_,fun hx=>(jJ y).2 (h.2.1 hx),fun hx=>(jJ y).1 (h.2.2.1 hx),by rw [pA];have:=h.2.2.2;omega⟩
 have e:(bytesOf [[D.i n]]++o).data.toList=[UInt8.ofNat n.toNat]++o.data.toList:=by
  simp [bytesOf,D.int]
 rw [e,pA, ← jcu, ← h.1,qO (u:=y.natAbs) (by omega),hn,px]
 congr 3
theorem FI.last {x y:Int} {o:ByteArray} (h:FI x y o) (hy:y=0):o.data.toList=Lib.decDigits x.natAbs:=by
 have:=h.1
 subst hy
 simpa [qP] using this
theorem FI.neg {x y:Int} {o:ByteArray} (h:FI x y o) (hy:y=0) (hx:x < 0):(⟨#[45]⟩:ByteArray)++o=aH x:=by
 have h1:=h.last hy
 unfold aH Lib.itoa
 rw [if_pos hx, ← h1]
 apply jda
 apply jc7
 simp
theorem FI.pos {x y:Int} {o:ByteArray} (h:FI x y o) (hy:y=0) (hx:¬ x < 0):o=aH x:=by
 have h1:=h.last hy
 have e:x.toNat=x.natAbs:=by omega
 unfold aH Lib.itoa
 rw [if_neg hx,e, ← h1]
theorem tz:(⟨#[48]⟩:ByteArray)=aH 0:=by
 unfold aH Lib.itoa
 rw [if_neg (by decide),show (0:Int).toNat=0 from rfl,Lib.decDigits]
 rfl
theorem FI.dig1 {x y:Int} {o:ByteArray} (h:FI x y o) (hd:¬ y.tmod 10 < 0):IntKind.u8.wrap (IntKind.i64.wrap (48+y.tmod 10))=48+(y.tmod 10).natAbs:=by
 have:=px y
 rw [IntKind.wrap_i64,IntKind.wrap_u8]
 omega
theorem FI.dig2 {x y:Int} {o:ByteArray} (h:FI x y o) (hd:y.tmod 10 < 0):IntKind.u8.wrap (IntKind.i64.wrap (48+IntKind.i64.wrap (0 - y.tmod 10)))=48+(y.tmod 10).natAbs:=by
 have:=px y
 rw [IntKind.wrap_i64,IntKind.wrap_i64,IntKind.wrap_u8]
 omega
theorem FI.quo {x y:Int} {o:ByteArray} (h:FI x y o) (hx:Ab.inK .i64 x):IntKind.i64.wrap (y.tdiv 10)=y.tdiv 10:=by
 have h1:IntKind.i64.min = -9223372036854775808:=by decide
 have h2:IntKind.i64.max=9223372036854775807:=by decide
 have h3:=h.inK hx
 have:=pA y
 rw [Ab.inK,h1,h2] at h3
 rw [IntKind.wrap_i64]
 omega
theorem size_le {a o:ByteArray} (h:a.size=1) (ho:o.size≤4611686018427387906):a.size+o.size≤maxLen:=by simp only [maxLen];omega
theorem jad (f:Int→ByteArray→Snap) (s:ByteArray) {a b:Int} (h:a=b):f a s=f b s:=congrArg (fun z=>f z s) h
theorem qz (y:Int):inK .i64 (y.tmod 10):=by
 have h1:IntKind.i64.min = -9223372036854775808:=by decide
 have h2:IntKind.i64.max=9223372036854775807:=by decide
 have:=px y
 rw [inK,h1,h2]
 omega
abbrev DIG:ByteArray:=⟨#[48,49,50,51,52,53,54,55,56,57,97,98,99,100,101,102]⟩
def dk (s:ByteArray) (k:Nat):List (List D):=(s.data.toList.take k).flatMap fun b=>[[.i ((Lib.Hx.digit (b.toNat / 16)).toNat:Int)],[.i ((Lib.Hx.digit (b.toNat % 16)).toNat:Int)]]
theorem wT:∀ n < 16,(DIG.data.getD n 0).toNat=(Lib.Hx.digit n).toNat:=by decide +kernel
theorem jbs {s:ByteArray} {k:Nat} (hk:k < s.size):s.data.toList[k]? = some (s.data.getD k 0):=by
 have:k < s.data.size:=hk
 rw [jcR,jcq this,jcS,jcq this]
 rfl
theorem kT (s:ByteArray) (k:Nat):(dk s k).length≤2 * k:=by
 have:∀ (l:List UInt8),(l.flatMap fun b=>[[D.i ((Lib.Hx.digit (b.toNat / 16)).toNat:Int)],[D.i ((Lib.Hx.digit (b.toNat % 16)).toNat:Int)]]).length=2 * l.length:=by
  intro l
  induction l with
  | nil=>rfl
  | cons a r ih=>simp only [jdI,jbQ,ih,jb3,jcc];omega
 unfold dk
 rw [this,jb7]
 omega
def hiD (b:UInt8):Int:=IntKind.i64.wrap ((IntKind.i64.wrap (b.toNat:Int)).tdiv 16)
def loD (b:UInt8):Int:=(IntKind.i64.wrap (b.toNat:Int)).tmod 16
theorem wN (b:UInt8):hiD b=((b.toNat / 16:Nat):Int):=by
 have hlt:b.toNat < 256:=UInt8.toNat_lt _
 unfold hiD
 rw [IntKind.wrap_i64 (b.toNat:Int),show ((b.toNat:Int)+9223372036854775808) % 18446744073709551616 - 9223372036854775808=(b.toNat:Int) by omega,Int.tdiv_eq_ediv_of_nonneg (by omega),IntKind.wrap_i64]
 omega
theorem wJ (b:UInt8):loD b=((b.toNat % 16:Nat):Int):=by
 have hlt:b.toNat < 256:=UInt8.toNat_lt _
 unfold loD
 rw [IntKind.wrap_i64 (b.toNat:Int),show ((b.toNat:Int)+9223372036854775808) % 18446744073709551616 - 9223372036854775808=(b.toNat:Int) by omega,jdm (by omega)]
 omega
theorem dig_hi (b:UInt8):((DIG.data.getD (hiD b).toNat 0).toNat:Int)=((Lib.Hx.digit (b.toNat / 16)).toNat:Int):=by
 have hlt:b.toNat < 256:=UInt8.toNat_lt _
 rw [wN,jca,wT _ (by omega)]
theorem dig_lo (b:UInt8):((DIG.data.getD (loD b).toNat 0).toNat:Int)=((Lib.Hx.digit (b.toNat % 16)).toNat:Int):=by
 have hlt:b.toNat < 256:=UInt8.toNat_lt _
 rw [wJ,jca,wT _ (by omega)]
theorem tI (b:UInt8):0≤hiD b∧hiD b < 16:=by
 have hlt:b.toNat < 256:=UInt8.toNat_lt _
 rw [wN];omega
theorem nh (b:UInt8):0≤loD b∧loD b < 16:=by
 rw [wJ];omega
theorem nG {s:ByteArray} {k:Nat} (hk:k < s.size):dk s k++[[.i ((DIG.data.getD (hiD (s.data.getD k 0)).toNat 0).toNat:Int)],[.i ((DIG.data.getD (loD (s.data.getD k 0)).toNat 0).toNat:Int)]]=dk s (k+1):=by
 rw [dig_hi,dig_lo]
 unfold dk
 rw [jcN,jbs hk,List.flatMap_append]
 rfl
theorem oZ {s:ByteArray} {k:Nat} (hk:k=s.size) (hs:s.data.toList ≠ []):bytesOf (dk s k)=encB s:=by
 rw [qh hs]
 unfold bytesOf dk
 rw [jcr (by rw [hk,jb5];exact jb4 _)]
 have:∀ (l:List UInt8),((l.flatMap fun b=>[[D.i ((Lib.Hx.digit (b.toNat / 16)).toNat:Int)],[D.i ((Lib.Hx.digit (b.toNat % 16)).toNat:Int)]]).map fun r=>UInt8.ofNat (r.getD 0 default).int.toNat)=Lib.Hx.encode l:=by
  intro l
  induction l with
  | nil=>rfl
  | cons a r ih =>
    rw [jdI,jc5,ih,Lib.Hx.encode_cons]
    simp [D.int]
 rw [this]
theorem mf (sep:List UInt8) (r:List (List UInt8)) (x:List UInt8):Lib.joinTail sep (r++[x])=Lib.joinTail sep r++(sep++x):=by simp [Lib.joinTail]
theorem tv (xs:List (List UInt8)) (x sep:List UInt8):Lib.join (xs++[x]) sep=if xs=[] then x else Lib.join xs sep++(sep++x):=by
 cases xs with
 | nil=>rw [if_pos rfl];exact Lib.join_one x sep
 | cons y r =>
   rw [if_neg (by simp),jbU,Lib.join_cons,Lib.join_cons,mf,jcu]
def jn (rows:List (List D)) (sep:ByteArray) (k:Nat):List UInt8:=Lib.join (((strsOf rows).take k).map (·.data.toList)) sep.data.toList
def cF (l:List UInt8):List (List D):=l.map fun b=>[.i (b.toNat:Int)]
theorem xC {rows:List (List D)} {k:Nat} (hk:k < rows.length):(strsOf rows)[k]? = some ((rows.getD k []).getD 0 default).str:=by
 simp [strsOf,jbT,jbN hk]
theorem tw {rows:List (List D)} {sep:ByteArray} {k:Nat} (hk:k < rows.length):jn rows sep (k+1)=if k=0 then ((rows.getD k []).getD 0 default).str.data.toList else jn rows sep k++(sep.data.toList++((rows.getD k []).getD 0 default).str.data.toList):=by
 unfold jn
 rw [jcN,xC hk,Option.toList_some,jc5,jdS,tv]
 have:(((strsOf rows).take k).map (·.data.toList)=[]) ↔ k=0:=by
  rw [List.map_eq_nil_iff,List.take_eq_nil_iff]
  constructor
  · rintro (h|h)
    · exact h
    · have:rows.length=0:=by simpa [strsOf] using congrArg List.length h
      omega
  · exact .inl
 simp only [this]
theorem yt {rows:List (List D)} {sep:ByteArray} {k:Nat} (hk:k < rows.length):(jn rows sep k).length≤(jn rows sep (k+1)).length:=by
 rw [tw hk]
 split
 · rename_i h
   subst h
   simp [jn,Lib.join_nil]
 · rw [jbQ];omega
theorem ja5 {rows:List (List D)} {sep:ByteArray}:∀ {j k:Nat},j+k=rows.length→(jn rows sep j).length≤(jn rows sep rows.length).length
 | j,0,h=>by rw [show j=rows.length by omega];exact jb4 _
 | j,k+1,h=>jbV (yt (by omega)) (ja5 (j:=j+1) (k:=k) (by omega))
theorem wM (rows:List (List D)) (sep:ByteArray):(⟨(jn rows sep rows.length).toArray⟩:ByteArray)=bg (strsOf rows) sep:=by
 unfold jn bg
 rw [jcr (by simp [strsOf])]
theorem jg (l:List UInt8):bytesOf (cF l)=⟨l.toArray⟩:=by
 have:((cF l).map fun r=>UInt8.ofNat (r.getD 0 default).int.toNat)=l:=by simp [cF,D.int,Function.comp_def]
 unfold bytesOf
 rw [this]
theorem fi (a b:List UInt8):cF (a++b)=cF a++cF b:=jc5
theorem fh (a:List UInt8):(cF a).length=a.length:=jb0 _
theorem nS (s:ByteArray):bytesD s=cF s.data.toList:=rfl
theorem ov (f:List (List D)→Int→Snap) {r r' : List (List D)} {a b:Int} (h:r=r') (h2:a=b):f r a=f r' b:=by rw [h,h2]
theorem tq (b:UInt8):inK .i64 (loD b):=by
 have h1:IntKind.i64.min = -9223372036854775808:=by decide
 have h2:IntKind.i64.max=9223372036854775807:=by decide
 have:=nh b
 rw [inK,h1,h2]
 omega
def errs:List ByteArray:=[⟨#[]⟩,⟨#[109,105,115,115,105,110,103]⟩,⟨#[100,117,112,108,105,99,97,116,101]⟩,⟨#[99,121,99,108,101]⟩,⟨#[116,121,112,101]⟩,⟨#[114,97,110,103,101]⟩,⟨#[108,105,109,105,116]⟩,⟨#[99,111,108,117,109,110]⟩,⟨#[115,121,110,116,97,120]⟩]
def errB (c:Int):ByteArray:=errs.getD c.toNat ⟨#[]⟩
def bI (a:List D):ByteArray:=if (a.getD 0 default).int=1 then aH (a.getD 1 default).int else ⟨#[101,114,114,111,114,32]⟩++errB (a.getD 1 default).int
theorem dM (c:Int):(errB c).size≤9:=by
 unfold errB
 by_cases h:c.toNat < 9
 · have:∀ n < 9,(errs.getD n ⟨#[]⟩).size≤9:=by decide
   exact this _ h
 · rw [jbT,jcW (by simp [errs];omega)]
   decide
theorem yG {x:Int} (h0:1≤x) (h1:x≤8):(((ae errs).getD x.toNat []).getD 0 default).str=errB x:=by
 have:∀ n < 9,(((ae errs).getD n []).getD 0 default).str=errs.getD n ⟨#[]⟩:=by
  intro n hn
  match n,hn with
  | 0,_=>rfl
  | 1,_=>rfl
  | 2,_=>rfl
  | 3,_=>rfl
  | 4,_=>rfl
  | 5,_=>rfl
  | 6,_=>rfl
  | 7,_=>rfl
  | 8,_=>rfl
 exact this _ (by omega)
theorem vt {x:Int} (h0:1≤x) (h1:x≤8):(((ae errs.tail).getD (IntKind.i64.wrap (x - 1)).toNat []).getD 0 default).str=errB x:=by
 have:∀ n < 8,(((ae errs.tail).getD n []).getD 0 default).str=errs.getD (n+1) ⟨#[]⟩:=by
  intro n hn
  match n,hn with
  | 0,_=>rfl
  | 1,_=>rfl
  | 2,_=>rfl
  | 3,_=>rfl
  | 4,_=>rfl
  | 5,_=>rfl
  | 6,_=>rfl
  | 7,_=>rfl
 rw [show (IntKind.i64.wrap (x - 1)).toNat=x.toNat - 1 by rw [IntKind.wrap_i64];omega,this _ (by omega)]
 unfold errB
 rw [show x.toNat - 1+1=x.toNat by omega]
def qC:FSpec where
 pre args:=∃ x:Int,1≤x∧x≤8∧args=[.val false [.i .i64 x]]
 res args:=match args with
  | [.val _ [.i _ x]]=>.val false [.s (errB x)]
  | _=>.none
def se:FSpec where
 pre args:=args=[]
 res _:=argS 9 (ae errs)
def GoodV (a:List D):Prop:=(a.getD 5 default).rows.length+(a.getD 6 default).rows.length≤4611686018427387904∧((a.getD 0 default).int=1∨(a.getD 0 default).int=6)∧okVal a=true
def lf (T:Tab) (cts:List CT):FSpec where
 pre args:=∃ a:List D,WfRow T cts a∧GoodV a∧args=[argG cts a]
 res args:=match args with
  | [.val _ cs]=>.val false [.s (bI (csD cs))]
  | _=>.none
theorem GoodV.err {a:List D} (h:GoodV a) (h6:(a.getD 0 default).int=6):1≤(a.getD 1 default).int∧(a.getD 1 default).int≤8:=by
 have:=h.2.2
 unfold okVal at this
 rw [if_neg (by rw [h6];decide)] at this
 simp only [jb1,inR,decide_eq_true_eq] at this
 exact this.2
theorem mn {a:List D} (h:(a.getD 0 default).int=1):bI a=aH (a.getD 1 default).int:=if_pos h
theorem mo {a:List D} (h:(a.getD 0 default).int=6):bI a=⟨#[101,114,114,111,114,32]⟩++errB (a.getD 1 default).int:=if_neg (by rw [h];decide)
end Go.Proofs.YtdjfhmghebommaaGreatDoor.Ab
namespace Go.Proofs.YtdjfhmghebommaaGreatDoor.Ab
open Go
theorem kC:∀ (l r:List UInt8) (acc:Nat),Lib.decFrom acc (l++r)=(Lib.decFrom acc l).bind fun m=>Lib.decFrom m r
 | [],r,acc=>rfl
 | b :: l,r,acc=>by
   simp only [jbU,Lib.decFrom]
   cases Lib.digitVal b with
   | none=>rfl
   | some d=>exact kC l r _
theorem qj {u:Nat} (h:u < 10):Lib.digitVal (UInt8.ofNat (48+u))=some u:=by
 have e:(UInt8.ofNat (48+u)).toNat=48+u:=by
  rw [UInt8.toNat_ofNat',jdh (by omega)]
 unfold Lib.digitVal
 rw [e,if_pos (by omega)]
 congr 1
 omega
theorem fe (u:Nat):Lib.decDigits u ≠ []:=by
 rw [Lib.decDigits]
 split
 · simp
 · simp
theorem kA (u:Nat):Lib.decFrom 0 (Lib.decDigits u)=some u:=by
 induction u using Nat.strongRecOn with
 | _ u ih =>
   rw [Lib.decDigits]
   split
   · rename_i h
     simp only [Lib.decFrom,qj h]
     simp
   · rename_i h
     rw [kC,ih (u / 10) (by omega),jdM]
     simp only [Lib.decFrom,qj (jdT u (by decide:0 < 10))]
     congr 1
     omega
theorem cW (u:Nat):∀ b ∈ Lib.decDigits u,48≤b.toNat∧b.toNat≤57:=by
 induction u using Nat.strongRecOn with
 | _ u ih =>
   intro b hb
   rw [Lib.decDigits] at hb
   split at hb
   · rename_i h
     rw [jcF.1 hb,UInt8.toNat_ofNat',jdh (by omega)]
     omega
   · rename_i h
     rcases jco.1 hb with hb|hb
     · exact ih (u / 10) (by omega) b hb
     · have:=jdT u (by decide:0 < 10)
       rw [jcF.1 hb,UInt8.toNat_ofNat',jdh (by omega)]
       omega
theorem kB (u:Nat):Lib.decNat (Lib.decDigits u)=some u:=by
 unfold Lib.decNat
 have:(Lib.decDigits u).isEmpty=false:=by
  cases h:Lib.decDigits u with
  | nil=>exact absurd h (fe u)
  | cons b l=>rfl
 rw [this]
 exact kA u
theorem nT (n:Int):Lib.atoi (Lib.itoa n)=some n:=by
 unfold Lib.itoa
 split
 · rename_i h
   unfold Lib.atoi
   simp only []
   rw [if_pos (by decide),kB,jc2]
   congr 1
   omega
 · rename_i h
   cases hd:Lib.decDigits n.toNat with
   | nil=>exact absurd hd (fe _)
   | cons b r =>
     have hm:=cW n.toNat b (by rw [hd];exact jcj ..)
     have h45:(b == 45)=false:=by
      rw [beq_eq_false_iff_ne]
      intro e
      rw [e] at hm
      exact absurd hm (by decide)
     have h43:(b == 43)=false:=by
      rw [beq_eq_false_iff_ne]
      intro e
      rw [e] at hm
      exact absurd hm (by decide)
     unfold Lib.atoi
     simp only []
     rw [if_neg (by rw [h45];decide),if_neg (by rw [h43];decide), ← hd,kB]
     show some ((n.toNat:Nat):Int)=some n
     congr 1
     omega
theorem ni (n:Int):∀ b ∈ Lib.itoa n,b ≠ 32:=by
 intro b hb e
 subst e
 unfold Lib.itoa at hb
 split at hb
 · rcases jbW.1 hb with hb|hb
   · exact absurd hb (by decide)
   · exact absurd (cW _ _ hb) (by decide)
 · exact absurd (cW _ _ hb) (by decide)
def az:List UInt8→List (List UInt8)
 | []=>[[]]
 | b :: r=>if b=32 then [] :: az r else match az r with
   | w :: ws=>(b :: w) :: ws
   | []=>[[b]]
theorem kZ:∀ l,az l ≠ []
 | []=>by simp [az]
 | b :: r=>by
   unfold az
   split
   · simp
   · split
     · simp
     · simp
theorem cX:∀ (w l:List UInt8),(∀ b ∈ w,b ≠ 32)→∀ x xs,az l=x :: xs→az (w++l)=(w++x) :: xs
 | [],l,_,x,xs,h=>h
 | b :: w,l,hw,x,xs,h=>by
   have ih:=cX w l (fun c hc=>hw c (jcx _ hc)) x xs h
   rw [jbU,az,if_neg (hw b (jcj ..)),ih]
   rfl
theorem gm (l:List UInt8):az (32 :: l)=[] :: az l:=by
 rw [az,if_pos rfl]
theorem iO:∀ ws:List (List UInt8),(∀ w ∈ ws, ∀ b ∈ w,b ≠ 32)→az (Lib.joinTail [32] ws)=[] :: ws
 | [],_=>rfl
 | w :: ws,h=>by
   have ih:=iO ws fun x hx=>h x (jcx _ hx)
   show az (32 :: (w++Lib.joinTail [32] ws))=_
   rw [gm,cX w _ (h w (jcj ..)) _ _ ih,jdc]
theorem mJ {ws:List (List UInt8)} (hne:ws ≠ []) (h:∀ w ∈ ws, ∀ b ∈ w,b ≠ 32):az (Lib.join ws [32])=ws:=by
 cases ws with
 | nil=>exact absurd rfl hne
 | cons w ws =>
   have ih:=iO ws fun x hx=>h x (jcx _ hx)
   rw [Lib.join_cons,cX w _ (h w (jcj ..)) _ _ ih,jdc]
theorem eF:∀ (l:List UInt8) (out:List (List UInt8)) (w:List UInt8) (b:UInt8),az l=out++[w]→az (l++[b])=if b=32 then out++[w]++[[]] else out++[w++[b]]
 | [], out,w,b,h=>by
   have h' : out=[]∧w=[]:=by
    cases out with
    | nil=>simpa [az,eq_comm] using h
    | cons x out =>
      have:=congrArg List.length h
      simp [az] at this
   obtain ⟨rfl,rfl⟩:=h'
   by_cases hb:b=32
   · subst hb;rfl
   · rw [if_neg hb]
     show az [b]=[[b]]
     rw [az,if_neg hb]
     rfl
 | a :: l,out,w,b,h=>by
   obtain ⟨o2,w2,e2⟩:∃ o2 w2,az l=o2++[w2]:=by
    have:=kZ l
    exact ⟨(az l).dropLast,(az l).getLast this,(List.dropLast_concat_getLast this).symm⟩
   have ih:=eF l o2 w2 b e2
   rw [jbU,az]
   rw [az] at h
   by_cases ha:a=32
   · rw [if_pos ha] at h ⊢
     rw [e2] at h
     have h2:([] :: o2)++[w2]=out++[w]:=h
     have h3:=List.append_inj' h2 rfl
     obtain ⟨h4,h5⟩:=h3
     have h6:w2=w:=by simpa using h5
     subst h4
     subst h6
     rw [ih]
     by_cases hb:b=32
     · rw [if_pos hb,if_pos hb];rfl
     · rw [if_neg hb,if_neg hb];rfl
   · rw [if_neg ha] at h ⊢
     cases o2 with
     | nil =>
       rw [e2] at h
       have h2:[]++[a :: w2]=out++[w]:=h
       obtain ⟨h4,h5⟩:=List.append_inj' h2 rfl
       have h6:a :: w2=w:=by simpa using h5
       subst h4
       subst h6
       rw [ih]
       by_cases hb:b=32
       · rw [if_pos hb,if_pos hb];rfl
       · rw [if_neg hb,if_neg hb];rfl
     | cons x o2 =>
       rw [e2] at h
       have h2:((a :: x) :: o2)++[w2]=out++[w]:=h
       obtain ⟨h4,h5⟩:=List.append_inj' h2 rfl
       have h6:w2=w:=by simpa using h5
       subst h4
       subst h6
       rw [ih]
       by_cases hb:b=32
       · rw [if_pos hb,if_pos hb];rfl
       · rw [if_neg hb,if_neg hb];rfl
end Go.Proofs.YtdjfhmghebommaaGreatDoor.Ab
