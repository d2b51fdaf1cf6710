/- A part. -/
import Derived.Test.YtdjfhmghebommaaGreatDoorDLx
import Derived.Lib.LastIndexByte
namespace Go.Proofs.YtdjfhmghebommaaGreatDoor
def gi (x:Nat):Nat:=if x % 2=1 then (x / 2) ^^^ 3988292384 else x / 2
def bS:Nat→Nat→Nat
 | 0,x=>x
 | n+1,x=>gi (bS n x)
def kE (x:Nat) (b:UInt8):Nat:=bS 8 (x ^^^ b.toNat)
def bm (l:List UInt8):Nat:=l.foldl kE 4294967295
theorem re {x:Nat} (h:x < 4294967296):gi x < 4294967296:=by
 unfold gi
 split
 · exact jdC (n:=32) (by omega) (by omega)
 · omega
theorem fw {x:Nat} (h:x < 4294967296):∀ n,bS n x < 4294967296
 | 0=>h
 | n+1=>re (fw h n)
theorem mx {x:Nat} (h:x < 4294967296) (b:UInt8):x ^^^ b.toNat < 4294967296 :=
 jdC (n:=32) h (jcM b.toNat_lt (by decide))
theorem rf {x:Nat} (h:x < 4294967296) (b:UInt8):kE x b < 4294967296:=fw (mx h b) 8
theorem iL (l:List UInt8):bm l < 4294967296:=by
 suffices h:∀ (l:List UInt8) (x:Nat),x < 4294967296→l.foldl kE x < 4294967296 from h l _ (by decide)
 intro l
 induction l with
 | nil=>intro x h;exact h
 | cons b r ih=>intro x h;exact ih _ (rf h b)
theorem nP (l:List UInt8) (b:UInt8):bm (l++[b])=kE (bm l) b:=by simp [bm]
theorem qn (s:ByteArray) (k:Nat) (h:k < s.size):bm (s.data.toList.take (k+1))=kE (bm (s.data.toList.take k)) s[k]:=by
 rw [jc8 (by simpa using h),nP];rfl
theorem jD {n:Int} (h0:-9223372036854775808≤n) (h1:n < 9223372036854775808):IntKind.i64.wrap n=n:=by
 simp only [IntKind.wrap,IntKind.bits,IntKind.signed];simp;omega
theorem lZ (a:Nat) (ha:a < 4294967296):(BitVec.ofInt 64 (a:Int)).toNat=a:=by
 rw [BitVec.ofInt_natCast,BitVec.toNat_ofNat];exact jdh (by omega)
theorem ga (a b:Nat) (ha:a < 4294967296) (hb:b < 4294967296):bits .xor .i64 (a:Int) (b:Int)=((a ^^^ b:Nat):Int):=by
 have hx:a ^^^ b < 2 ^ 32:=jdC (by omega) (by omega)
 show IntKind.i64.wrap ((BitVec.ofInt 64 (a:Int) ^^^ BitVec.ofInt 64 (b:Int)).toNat:Int)=_
 rw [BitVec.toNat_xor,lZ a ha,lZ b hb,jD (by omega) (by omega)]
theorem oU (a b:Nat) (ha:a < 4294967296) (hb:b < 4294967296):bits .and .i64 (a:Int) (b:Int)=((a &&& b:Nat):Int):=by
 have hx:a &&& b < 2 ^ 32:=Nat.and_lt_two_pow _ (by omega)
 show IntKind.i64.wrap ((BitVec.ofInt 64 (a:Int) &&& BitVec.ofInt 64 (b:Int)).toNat:Int)=_
 rw [BitVec.toNat_and,lZ a ha,lZ b hb,jD (by omega) (by omega)]
theorem oT (x:Nat) (h:x < 4294967296):bits .and .i64 (x:Int) 1=((x % 2:Nat):Int):=by
 have:=oU x 1 h (by decide)
 rw [nat_mask1] at this
 exact this
theorem od (x:Nat) (h:x < 4294967296):bits .and .u32 (x:Int) 1=((x % 2:Nat):Int):=by
 have:=u32_and_nat x 1 h (by decide)
 rw [nat_mask1] at this
 exact this
end Go.Proofs.YtdjfhmghebommaaGreatDoor
namespace Go.Proofs.YtdjfhmghebommaaGreatDoor
open Go.ChangeShapes Go.WideShapes Go.ChangeAt Go.RowKit
theorem nu (Z:Nat) (h:Z < 4294967296):bits .xor .i64 ((Z:Int) / 2) 3988292384=((Z / 2 ^^^ 3988292384:Nat):Int):=by
 have:=ga (Z / 2) 3988292384 (by omega) (by omega)
 rw [← this];rfl
theorem mM (Z:Nat) (h:Z < 4294967296):bits .xor .u32 ((Z:Int) / 2) 3988292384=((Z / 2 ^^^ 3988292384:Nat):Int):=by
 have:=u32_xor_nat (Z / 2) 3988292384 (by omega) (by omega)
 rw [← this];rfl
theorem sH {a b:Int} (h:a=b):Ending.returned (.int .i64 a)=Ending.returned (.int .i64 b):=by rw [h]
theorem kD {j Y Z:Nat} (h:bS j Y=Z) (h2:Z % 2=1):Value.int .i64 ((Z / 2 ^^^ 3988292384:Nat):Int)=.int .i64 (bS (j+1) Y)∧Value.int .u32 ((Z / 2 ^^^ 3988292384:Nat):Int)=.int .u32 (bS (j+1) Y):=by
 have e:bS (j+1) Y=Z / 2 ^^^ 3988292384:=by show gi (bS j Y)=_;rw [h,gi,if_pos h2]
 rw [e];exact ⟨rfl,rfl⟩
theorem ja {j Y Z:Nat} (h:bS j Y=Z) (h2:¬ Z % 2=1):Value.int .i64 ((Z:Int) / 2)=.int .i64 (bS (j+1) Y)∧Value.int .u32 ((Z:Int) / 2)=.int .u32 (bS (j+1) Y):=by
 have e:bS (j+1) Y=Z / 2:=by show gi (bS j Y)=_;rw [h,gi,if_neg h2]
 rw [e];exact ⟨rfl,rfl⟩
set_option maxHeartbeats 1000000 in
theorem xF (s:ByteArray) (w:World) (hs:s.size≤281474976710656) :
 Calls Tryz.prog 69 #[.string s] w fun e w' => e=.returned (.int .i64 ((bm s.data.toList ^^^ 4294967295:Nat):Int))∧w=w' := by
 go_enter Tryz.func69,Tryz.ntmps69
 go_wp2_with fail
 go_loop [3,4] (fun x i=>∃ k:Nat,k≤s.size∧i=.int .i64 k∧x=.int .i64 (bm (s.data.toList.take k))) (fun _ i=>s.size - (intOf i).toNat)
 case atStart=>exact ⟨0,jbP _,rfl,rfl⟩
 case round =>
  obtain ⟨k,hk,rfl,rfl⟩:=hrel
  have hxl:=iL (s.data.toList.take k)
  by_cases hlt:k < s.size
  · have hct:=qn s k hlt
    generalize hX:bm (s.data.toList.take k)=X at *
    have HC:=Lib.hid hct
    clear hX hct
    have hbl:=s[k].toNat_lt
    have b1:=ga X s[k].toNat hxl (by omega)
    have hyl:=mx hxl s[k]
    go_wp2_with fail
    go_loop [3,5] (fun x i=>∃ j:Nat,j≤8∧i=.int .i64 j∧x=.int .i64 (bS j (X ^^^ s[k].toNat))) (fun _ i=>8 - (intOf i).toNat)
    case atStart=>exact ⟨0,jbP _,rfl,rfl⟩
    case round =>
     obtain ⟨j,hj,rfl,rfl⟩:=hrel
     have hzl:=fw hyl j
     by_cases hjl:j < 8
     · generalize hZ:bS j (X ^^^ s[k].toNat)=Z at *
       have HZ:=Lib.hid hZ
       clear hZ b1
       have c1:=oT Z hzl
       have c2:=nu Z hzl
       by_cases hp:Z % 2=1
       · have R:=kD HZ.out hp
         have HR:=Lib.hid R
         clear R
         rw [hp] at c1
         clear hp
         go_wp2
         go_round
         case rel=>exact ⟨j+1,by omega,by go_num,HR.out.1⟩
         case measure=>simp [intOf];omega
       · have R:=ja HZ.out hp
         have HR:=Lib.hid R
         clear R
         rw [show Z % 2=0 from by omega] at c1
         clear hp
         go_wp2
         go_round
         case rel=>exact ⟨j+1,by omega,by go_num,HR.out.1⟩
         case measure=>simp [intOf];omega
     · obtain rfl:j=8:=by omega
       clear b1
       go_wp2
       go_round
       case rel=>exact ⟨k+1,by omega,by go_num,by rw [HC.out];rfl⟩
       case measure=>simp [intOf];omega
  · obtain rfl:k=s.size:=by omega
    rw [show s.data.toList.take s.size=s.data.toList from jcr (by simp)] at *
    have b1:bits .xor .i64 (bm s.data.toList:Int) 4294967295=((bm s.data.toList ^^^ 4294967295:Nat):Int):=ga (bm s.data.toList) 4294967295 hxl (by omega)
    have HB:=Lib.hid b1
    clear b1
    go_wp2
    go_ret
    exact ⟨sH HB.out,rfl⟩
set_option maxHeartbeats 1000000 in
theorem yA (s:ByteArray) (w:World) (hs:s.size≤281474976710656) :
 Calls Tryz.prog 73 #[.string s] w fun e w' => e=.returned (.int .i64 ((bm s.data.toList ^^^ 4294967295:Nat):Int))∧w=w' := by
 go_enter Tryz.func73,Tryz.ntmps73
 go_wp2_with fail
 go_loop [3,4] (fun x i=>∃ k:Nat,k≤s.size∧i=.int .i64 k∧x=.int .u32 (bm (s.data.toList.take k))) (fun _ i=>s.size - (intOf i).toNat)
 case atStart=>exact ⟨0,jbP _,rfl,rfl⟩
 case round =>
  obtain ⟨k,hk,rfl,rfl⟩:=hrel
  have hxl:=iL (s.data.toList.take k)
  by_cases hlt:k < s.size
  · have hct:=qn s k hlt
    generalize hX:bm (s.data.toList.take k)=X at *
    have HC:=Lib.hid hct
    clear hX hct
    have hbl:=s[k].toNat_lt
    have b1:=u32_xor_nat X s[k].toNat hxl (by omega)
    have hyl:=mx hxl s[k]
    go_wp2_with fail
    go_loop [3,5] (fun x i=>∃ j:Nat,j≤8∧i=.int .i64 j∧x=.int .u32 (bS j (X ^^^ s[k].toNat))) (fun _ i=>8 - (intOf i).toNat)
    case atStart=>exact ⟨0,jbP _,rfl,rfl⟩
    case round =>
     obtain ⟨j,hj,rfl,rfl⟩:=hrel
     have hzl:=fw hyl j
     by_cases hjl:j < 8
     · generalize hZ:bS j (X ^^^ s[k].toNat)=Z at *
       have HZ:=Lib.hid hZ
       clear hZ b1
       have c1:=od Z hzl
       have c2:=mM Z hzl
       by_cases hp:Z % 2=1
       · have R:=kD HZ.out hp
         have HR:=Lib.hid R
         clear R
         rw [hp] at c1
         clear hp
         go_wp2
         go_round
         case rel=>exact ⟨j+1,by omega,by go_num,HR.out.2⟩
         case measure=>simp [intOf];omega
       · have R:=ja HZ.out hp
         have HR:=Lib.hid R
         clear R
         rw [show Z % 2=0 from by omega] at c1
         clear hp
         go_wp2
         go_round
         case rel=>exact ⟨j+1,by omega,by go_num,HR.out.2⟩
         case measure=>simp [intOf];omega
     · obtain rfl:j=8:=by omega
       clear b1
       go_wp2
       go_round
       case rel=>exact ⟨k+1,by omega,by go_num,by rw [HC.out];rfl⟩
       case measure=>simp [intOf];omega
  · obtain rfl:k=s.size:=by omega
    rw [show s.data.toList.take s.size=s.data.toList from jcr (by simp)] at *
    have b1:bits .xor .u32 (bm s.data.toList:Int) 4294967295=((bm s.data.toList ^^^ 4294967295:Nat):Int):=u32_xor_nat (bm s.data.toList) 4294967295 hxl (by omega)
    have HB:=Lib.hid b1
    clear b1
    go_wp2
    go_ret
    have hxx:=jdC (n:=32) (x:=bm s.data.toList) (y:=4294967295) hxl (by omega)
    exact ⟨sH (by rw [HB.out];exact IntWalk.wrap64_in _ (by omega)),rfl⟩
end Go.Proofs.YtdjfhmghebommaaGreatDoor
namespace Go.Proofs.YtdjfhmghebommaaGreatDoor.Ab
open Go.RowKit
set_option linter.all false
def sumI (s:ByteArray):Int:=((bm s.data.toList ^^^ 4294967295:Nat):Int)
def rS:FSpec where
 pre args:=∃ s:ByteArray,s.size≤140737488355328∧args=[.val false [.s s]]
 res args:=match args with
  | [.val _ [.s s]]=>.val false [.i .i64 (sumI s)]
  | _=>.none
theorem rI (s:ByteArray):0≤sumI s∧sumI s < 4294967296:=by
 have hxx:=jdC (n:=32) (x:=bm s.data.toList) (y:=4294967295) (iL _) (by omega)
 unfold sumI
 omega
section
variable {P:Program} {T:Tab} {f:FuncId}
theorem vR (hcall:∀ args w,(callFunc f args).run P w=.ok (.enter f args) w)
 (h:∀ (s:ByteArray) (w:World) (hs:s.size≤281474976710656),Calls P f #[.string s] w fun e w' => e=.returned (.int .i64 ((bm s.data.toList ^^^ 4294967295:Nat):Int))∧w=w'):FOk P T f rS:=by
 refine ⟨hcall,fun hb=>(by cases hb),fun _ w X args vals hX hargs hgl hpre=>?_,fun hb=>(by cases hb)⟩
 obtain ⟨s,hs,he⟩:=hpre
 subst he
 obtain ⟨v,rfl,rfl,hk⟩:=hargs.one_
 refine (h s w (by omega)).mono fun e w' ⟨he,hw⟩=>⟨_,fun _=>noB,he,hw ▸ Below.refl _ _,?_,(fun j b h=>by cases h),(fun j j2 b h=>by cases h)⟩
 have h1:IntKind.i64.min = -9223372036854775808:=by decide
 have h2:IntKind.i64.max=9223372036854775807:=by decide
 have hi:=rI s
 exact ⟨_,rfl,rfl,by rw [inK,h1,h2];omega⟩
end
def recT (t:ByteArray):ByteArray:=if t.data.toList=[] then ⟨#[]⟩ else t++⟨#[32]⟩++aH (sumI t)++⟨#[10]⟩
theorem sJ {t:ByteArray} (h:t.data.toList=[]):recT t=⟨#[]⟩:=if_pos h
theorem pQ {t:ByteArray} (h:t.data.toList ≠ []):recT t=t++⟨#[32]⟩++aH (sumI t)++⟨#[10]⟩:=if_neg h
theorem qa (t:ByteArray):(aH (sumI t)).size≤10:=by
 have hi:=rI t
 show (Lib.itoa (sumI t)).toArray.size≤_
 rw [jcm]
 unfold Lib.itoa
 rw [if_neg (by omega)]
 exact bR 9 _ (by omega)
theorem rec1 {t:ByteArray} (h:t.size≤140737488355328):t.size+(⟨#[32]⟩:ByteArray).size≤maxLen:=by
 show t.size+1≤maxLen
 simp only [maxLen];omega
theorem rec2 {t:ByteArray} (h:t.size≤140737488355328):(t++⟨#[32]⟩).size+(aH (sumI t)).size≤maxLen:=by
 have:=qa t
 rw [jb9]
 show t.size+1+_≤maxLen
 simp only [maxLen];omega
theorem rec3 {t:ByteArray} (h:t.size≤140737488355328):(t++⟨#[32]⟩++aH (sumI t)).size+(⟨#[10]⟩:ByteArray).size≤maxLen:=by
 have:=qa t
 rw [jb9,jb9]
 show t.size+1+_+1≤maxLen
 simp only [maxLen];omega
theorem nd {a:List D} (hs:SmO a):(aZ a).size≤140737488355328:=by
 unfold aZ
 split
 · exact fX hs ‹_›
 · exact jbP _
abbrev byt (s:ByteArray) (i:Nat):Nat:=(s.data.getD i 0).toNat
def eolN (s:ByteArray):Nat→Nat→Nat
 | 0,i=>i
 | m+1,i=>if i < s.size∧byt s i ≠ 10 then eolN s m (i+1) else i
def spN (s:ByteArray) (k:Nat):Nat→Nat
 | 0=>0
 | p+1=>if k < p+1∧byt s p ≠ 32 then spN s k p else p+1
def recN (po:ByteArray→List D × Bool) (s:ByteArray) (k e p:Nat):List D × Int :=
 if e=s.size∨p=k then (bw,0) else
 if (po (s.extract k (p - 1))).2=true∧recT (aZ (po (s.extract k (p - 1))).1)=s.extract k (e+1) then ((po (s.extract k (p - 1))).1,((e+1 - k:Nat):Int)) else (bw,0)
def eolK (s:ByteArray) (k:Nat):Nat:=eolN s s.size k
def spK (s:ByteArray) (k:Nat):Nat:=spN s k (eolK s k)
def recS (po:ByteArray→List D × Bool) (s:ByteArray) (k:Int):List D × Int :=
 if 0≤k∧k≤s.size then recN po s k.toNat (eolK s k.toNat) (spK s k.toNat) else (bw,0)
def cutL (t:ByteArray):ByteArray:=⟨(Lib.cut t.data.toList [10]).1.toArray⟩
def cutR (t:ByteArray):ByteArray:=⟨(Lib.cut t.data.toList [10]).2.1.toArray⟩
def cutF (t:ByteArray):Bool:=(Lib.cut t.data.toList [10]).2.2
abbrev NL:ByteArray:=⟨#[10]⟩
def iH (po:ByteArray→List D × Bool) (l:ByteArray) (f:Bool) (j:Int):List D × Int :=
 if f=false∨j < 0 then (bw,0) else
 if (po (l.extract 0 j.toNat)).2=true∧recT (aZ (po (l.extract 0 j.toNat)).1)=l++NL then ((po (l.extract 0 j.toNat)).1,((l.size+1:Nat):Int)) else (bw,0)
def recI (po:ByteArray→List D × Bool) (s:ByteArray) (k:Int):List D × Int :=
 if k < 0∨(s.size:Int)≤k then (bw,0) else
 iH po (cutL (s.extract k.toNat s.size)) (cutF (s.extract k.toNat s.size)) (Lib.lastIndexByte (cutL (s.extract k.toNat s.size)) 32)
theorem kx {s:ByteArray}:∀ (m i:Nat),i≤s.size→s.size≤i+m→i≤eolN s m i∧eolN s m i≤s.size∧(∀ j,i≤j→j < eolN s m i→byt s j ≠ 10)∧(eolN s m i < s.size→byt s (eolN s m i)=10)
 | 0,i,hi,hm=>⟨jb4 _,hi,fun j h1 h2=>absurd h1 (Nat.not_le_of_lt h2),fun h=>absurd h (by rw [eolN];omega)⟩
 | m+1,i,hi,hm=>by
   rw [eolN]
   split
   · rename_i h
     obtain ⟨a,b,c,d⟩:=kx m (i+1) h.1 (by omega)
     refine ⟨by omega,b,fun j h1 h2=>?_,d⟩
     by_cases hj:j=i
     · rw [hj];exact h.2
     · exact c j (by omega) h2
   · rename_i h
     refine ⟨jb4 _,hi,fun j h1 h2=>absurd h1 (Nat.not_le_of_lt h2),fun h2=>?_⟩
     by_cases hb:byt s i=10
     · exact hb
     · exact absurd ⟨h2,hb⟩ h
theorem pG {s:ByteArray} {k:Nat}:∀ p,k≤p→k≤spN s k p∧spN s k p≤p∧(∀ j,spN s k p≤j→j < p→byt s j ≠ 32)∧(k < spN s k p→byt s (spN s k p - 1)=32)
 | 0,h=>⟨by rw [spN];exact h,jbP _,fun j h1 h2=>absurd h2 (jcE _),fun h2=>absurd h2 (by rw [spN];exact jcE _)⟩
 | p+1,h=>by
   rw [spN]
   split
   · rename_i hc
     obtain ⟨a,b,c,d⟩:=pG (k:=k) p (by omega)
     refine ⟨a,by omega,fun j h1 h2=>?_,d⟩
     by_cases hj:j=p
     · rw [hj];exact hc.2
     · exact c j h1 (by omega)
   · rename_i hc
     refine ⟨h,jb4 _,fun j h1 h2=>absurd h1 (Nat.not_le_of_lt h2),fun h2=>?_⟩
     by_cases hb:byt s p=32
     · exact hb
     · exact absurd ⟨h2,hb⟩ hc
theorem mq {s:ByteArray} {k e i:Nat} (h:k+i < e) (he:e≤s.size):byt (s.extract k e) i=byt s (k+i):=by
 have e1:(s.extract k e).data.toList[i]? = some (s.data.getD (k+i) 0):=by
  rw [Lib.extract_eq]
  show (List.take (e - k) (List.drop k s.data.toList))[i]? = _
  rw [jcK,if_pos (by omega),jcY,cm (by omega)]
 have hi:i < (s.extract k e).size:=by rw [jcd];omega
 rw [cm hi] at e1
 show ((s.extract k e).data.getD i 0).toNat=_
 rw [jbR e1]
theorem occ_one {t:ByteArray} {i:Nat} (h:i < t.size):Lib.occAt t.data.toList [10] i=(byt t i == 10):=by
 unfold Lib.occAt
 have hl:i < t.data.toList.length:=by rw [jb5];exact h
 rw [List.drop_eq_getElem_cons hl]
 have e:=cm h
 rw [jbN hl] at e
 rw [jbR e]
 simp only [List.isPrefixOf,jcy]
 rw [jdB,beq_iff_eq,beq_iff_eq]
 constructor
 · intro h;show (t.data.getD i 0).toNat=10;rw [← h];rfl
 · intro h;apply UInt8.toNat_inj.1;exact h.symm
theorem yL {s:ByteArray} {k e:Nat} (hk:k≤e) (he:e < s.size) (hn:∀ j,k≤j→j < e→byt s j ≠ 10) (hb:byt s e=10):cutL (s.extract k s.size)=s.extract k e∧cutF (s.extract k s.size)=true:=by
 have hsz:(s.extract k s.size).size=s.size - k:=by rw [jcd];omega
 have hi:Lib.indexB (s.extract k s.size) NL=((e - k:Nat):Int):=by
  refine Lib.index_first ?_ ?_ ?_
  · rw [jb5]
    show e - k≤(s.extract k s.size).size
    omega
  · show Lib.occAt _ [10] _=true
    rw [occ_one (by omega),mq (by omega) (jb4 _),show k+(e - k)=e by omega,hb];rfl
  · intro j hj
    show Lib.occAt _ [10] _=false
    rw [occ_one (by omega),mq (by omega) (jb4 _)]
    exact beq_eq_false_iff_ne.2 (hn (k+j) (by omega) (by omega))
 have:=Lib.cutB_hit _ _ _ hi
 refine ⟨?_,this.2.2⟩
 have h1:=this.1
 show cutL _=_
 rw [show cutL (s.extract k s.size)=_ from h1]
 apply jda
 apply jc7
 rw [Lib.extract_eq,Lib.extract_eq,Lib.extract_eq]
 simp only [List.drop_zero,Nat.sub_zero]
 rw [List.take_take,jc3 (by omega)]
theorem vC {s:ByteArray} {k:Nat} (hk:k≤s.size) (hn:∀ j,k≤j→j < s.size→byt s j ≠ 10):cutF (s.extract k s.size)=false:=by
 have hsz:(s.extract k s.size).size=s.size - k:=by rw [jcd];omega
 refine (Lib.cutB_miss (s.extract k s.size) NL ?_).2.2
 refine Lib.index_none fun j hj=>?_
 rw [jb5] at hj
 have hj' : j≤(s.extract k s.size).size:=hj
 by_cases h:j < (s.extract k s.size).size
 · show Lib.occAt _ [10] _=false
   rw [occ_one h,mq (by omega) (jb4 _)]
   exact beq_eq_false_iff_ne.2 (hn (k+j) (by omega) (by omega))
 · unfold Lib.occAt
   rw [jdE (by rw [jb5];exact Nat.le_of_not_lt h)]
   rfl
theorem vI {s:ByteArray} {i:Nat} (h:i < s.size):(s.data[i]!).toNat=byt s i:=by
 show _=(s.data.getD i 0).toNat
 have h' : i < s.data.size:=h
 rw [getElem!_pos s.data i h']
 rw [show s.data.getD i 0=s.data[i] by unfold Array.getD;rw [dif_pos h'];rfl]
theorem jbn {s:ByteArray} {k e:Nat} (hk:k≤e) (he:e < s.size) (hb:byt s e=10):s.extract k (e+1)=s.extract k e++NL:=by
 apply jda
 apply jc7
 have e1:((s.extract k e++NL).data.toList)=(s.extract k e).data.toList++[10]:=by simp
 rw [e1,Lib.extract_eq,Lib.extract_eq]
 show List.take (e+1 - k) (List.drop k s.data.toList)=List.take (e - k) (List.drop k s.data.toList)++[10]
 rw [show e+1 - k=(e - k)+1 by omega,jcN,jcY,show k+(e - k)=e by omega,cm he]
 congr 1
 show [s.data.getD e 0]=[10]
 congr 1
 apply UInt8.toNat_inj.1
 exact hb
theorem uX (po:ByteArray→List D × Bool) (s:ByteArray) (k:Int):recS po s k=recI po s k:=by
 unfold recS recI
 by_cases h0:0≤k∧k≤s.size
 · obtain ⟨n, rfl⟩:=jcP h0.1
   rw [if_pos h0,jca]
   have hn:n≤s.size:=by omega
   obtain ⟨a,b,c,d⟩:=kx (s:=s) s.size n hn (by omega)
   obtain ⟨a2,b2,c2,d2⟩:=pG (s:=s) (k:=n) (eolK s n) a
   unfold recN
   by_cases he:eolK s n=s.size
   · rw [if_pos (.inl he)]
     by_cases hk:((n:Int) < 0∨(s.size:Int)≤n)
     · rw [if_pos hk]
     · rw [if_neg hk]
       unfold iH
       rw [if_pos (.inl (vC hn fun j h1 h2=>c j h1 (by show j < eolK s n;omega)))]
   · have hlt:eolK s n < s.size:=by have:eolK s n≤s.size:=b;omega
     rw [if_neg (show ¬ ((n:Int) < 0∨(s.size:Int)≤n) by have:n≤eolK s n:=a;omega)]
     obtain ⟨hL,hF⟩:cutL (s.extract n s.size)=s.extract n (eolK s n)∧cutF (s.extract n s.size)=true:=yL a hlt c (d hlt)
     rw [hL,hF]
     have hls:(s.extract n (eolK s n)).size=eolK s n - n:=by rw [jcd];omega
     have ha:n≤eolK s n:=a
     have bt:∀ i,i < eolK s n - n→((s.extract n (eolK s n)).data[i]!).toNat=byt s (n+i):=fun i hi=>by rw [vI (by omega),mq (by omega) (by omega)]
     unfold iH
     rcases Lib.lastIndexByte_spec (s.extract n (eolK s n)) 32 with ⟨e1,h1⟩|⟨i,hi,e1,h1,h2⟩
     · have hpn:spK s n=n:=by
        by_cases hlt2:n < spK s n
        · exfalso
          have hq:=d2 hlt2
          have b2' : spK s n≤eolK s n:=b2
          refine h1 (spK s n - 1 - n) (by omega) ?_
          rw [bt _ (by omega),show n+(spK s n - 1 - n)=spK s n - 1 by omega]
          show ((byt s (spK s n - 1):Nat):Int)=32
          rw [show byt s (spK s n - 1)=32 from hq];rfl
        · have:n≤spK s n:=a2
          omega
       rw [e1,if_pos (.inr hpn),if_pos (.inr (by decide))]
     · have hp:spK s n=n+i+1:=by
        have b2' : spK s n≤eolK s n:=b2
        have a2' : n≤spK s n:=a2
        by_cases g1:spK s n≤n+i
        · exfalso
          refine c2 (n+i) g1 (by omega) ?_
          rw [bt i (by omega)] at h1
          exact_mod_cast h1
        · by_cases g2:spK s n=n+i+1
          · exact g2
          · exfalso
            have hq:=d2 (show n < spK s n by omega)
            refine h2 (spK s n - 1 - n) (by omega) (by omega) ?_
            rw [bt _ (by omega),show n+(spK s n - 1 - n)=spK s n - 1 by omega]
            show ((byt s (spK s n - 1):Nat):Int)=32
            rw [show byt s (spK s n - 1)=32 from hq];rfl
       have hx:(s.extract n (eolK s n)).extract 0 i=s.extract n (spK s n - 1):=by
        apply jda
        apply jc7
        rw [Lib.extract_eq,Lib.extract_eq,Lib.extract_eq]
        simp only [List.drop_zero,Nat.sub_zero]
        rw [List.take_take,jc3 (by omega)]
        congr 1
        omega
       rw [if_neg (show ¬ (eolK s n=s.size∨spK s n=n) by omega),e1,if_neg (show ¬ (true=false∨(i:Int) < 0) by simp),jca,hx, ← jbn (show n≤eolK s n from a) hlt (d hlt)]
       rw [show (s.extract n (eolK s n)).size+1=eolK s n+1 - n by omega]
 · rw [if_neg h0,if_pos (by omega)]
def spPR (cts:List CT) (rc:ByteArray→Int→List D × Int):FSpec where
 pre args:=∃ (s:ByteArray) (k:Int),s.size≤1048576∧args=[sArg s,iArg k]
 res args:=match args with
  | [.val _ [.s s],.val _ [.i _ k]]=>.tup [(true,rowC cts (rc s k).1),(false,[.i .i64 (rc s k).2])]
  | _=>.none
def spCut:FSpec where
 pre args:=∃ s:ByteArray,s.size≤1048576∧args=[sArg s,sArg NL]
 res args:=match args with
  | [.val _ [.s s],_]=>.tup [(false,[.s (cutL s)]),(false,[.s (cutR s)]),(false,[.b (cutF s)])]
  | _=>.none
def spLast:FSpec where
 pre args:=∃ s:ByteArray,s.size≤1048576∧args=[sArg s,.val false [.i .u8 32]]
 res args:=match args with
  | [.val _ [.s s],_]=>.val false [.i .i64 (Lib.lastIndexByte s 32)]
  | _=>.none
theorem nO (t:ByteArray):(cutL t).size≤t.size:=by
 have hs:t.data.toList.length=t.size:=by rw [jb5];rfl
 show (Lib.cut t.data.toList [10]).1.toArray.size≤_
 rw [jcm]
 unfold Lib.cut
 split
 · rw [jb7];omega
 · exact Nat.le_of_eq hs
theorem ui (t:ByteArray):(cutR t).size≤t.size:=by
 have hs:t.data.toList.length=t.size:=by rw [jb5];rfl
 show (Lib.cut t.data.toList [10]).2.1.toArray.size≤_
 rw [jcm]
 unfold Lib.cut
 split
 · rw [jct];omega
 · exact jbP _
theorem tu (t:ByteArray):-1≤Lib.lastIndexByte t 32∧Lib.lastIndexByte t 32 < t.size∨Lib.lastIndexByte t 32 = -1:=by
 rcases Lib.lastIndexByte_spec t 32 with ⟨e,_⟩|⟨i,hi,e,_⟩
 · exact .inr e
 · exact .inl (by omega)
end Go.Proofs.YtdjfhmghebommaaGreatDoor.Ab
