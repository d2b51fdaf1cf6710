/- Drawn cells and operations: what is known of them, in plain Lean. No program in -/
import Derived.Test.YtkpnfbdoaljkpaaGreatDoorCJd
import Derived.Test.YtkpnfbdoaljkpaaGreatDoorCPa
namespace Go.Proofs.YtkpnfbdoaljkpaaGreatDoor.Ab
open Go.RowKit
set_option linter.all false
structure CLs where
 id:Int
 ve:Int
 k:Int
 nm:ByteArray
 cd:ByteArray
 n:Int
instance:Inhabited CLs:=⟨⟨0,0,0,ByteArray.empty,ByteArray.empty,0⟩⟩
def CLs.ok (x:CLs):Prop:=inK .i64 x.ve∧inK .i64 x.k∧x.nm.size≤8∧x.cd.size≤700∧inK .i64 x.n
structure EDs where
 k:Int
 at_:Int
 c:CLs
instance:Inhabited EDs:=⟨⟨0,0,default⟩⟩
def EDs.ok (x:EDs):Prop:=inK .i64 x.k∧inK .i64 x.at_∧inK .i64 x.c.id∧x.c.ok
def RdD (r:List D):Prop:=∃ (k n t:Int) (s:ByteArray) (v:Int),r=[.i k,.i n,.i t,.s s,.i 1,.i v,.i 0,.s ⟨#[]⟩,.l [],.l [],.l []]∧inK .i64 k∧inK .i64 n∧inK .i64 t∧s.size≤8∧inK .i64 v
def IntD (r:List D):Prop:=∃ n:Int,r=[.i n]∧inK .i64 n
structure OLs where
 a0:Int
 a1:Int
 a2:Int
 sn:List (List D)
 e:EDs
 fr:ByteArray
 tt:ByteArray
 ce:Int
 ve:Int
 rd:List (List D)
instance:Inhabited OLs:=⟨⟨0,0,0,[],default,ByteArray.empty,ByteArray.empty,0,0,[]⟩⟩
abbrev OLs.row (x:OLs):List D:=[.i x.a0,.i x.a1,.i x.a2,.l x.sn,.i x.e.k,.i x.e.at_,.i x.e.c.id,.i x.e.c.ve,.i x.e.c.k,.s x.e.c.nm,.s x.e.c.cd,.i x.e.c.n,.s x.fr,.s x.tt,.i x.ce,.i x.ve,.l x.rd]
def OLs.ok (x:OLs):Prop:=inK .i64 x.a0∧inK .i64 x.a1∧inK .i64 x.a2∧(x.sn.length≤8∧∀ r ∈ x.sn,IntD r)∧x.e.ok∧x.fr.size≤8∧x.tt.size≤8∧inK .i64 x.ce∧inK .i64 x.ve∧(x.rd.length≤8∧∀ r ∈ x.rd,RdD r)
def OpD (r:List D):Prop:=∃ x:OLs,r=x.row∧x.ok
theorem le120 {s:ByteArray} (h:decide ((s.size:Int) > 120)=false):s.size≤120:=by have:=ja4 h;omega
theorem wlen {s:ByteArray} (h:s.size≤5):0≤(((af (ao s)).length:Nat):Int)∧(((af (ao s)).length:Nat):Int)≤6:=by
 unfold af
 rw [ja5]
 have:=dH s
 omega
theorem kU {r:List (List D)} (h:TR 11 r):(bJ (strsOf r) ⟨#[32]⟩).size≤r.length * 12:=by
 have:=cp (sep:=⟨#[32]⟩) h.strs
 simp only [strsOf,ja5] at this
 exact this
theorem qS {n:Int} (h:0≤n∧n < 256):inR n (-1000000000) 1000000000=true:=by
 unfold inR
 rw [ja6,decide_eq_true_eq,decide_eq_true_eq]
 omega
theorem id5 {rows:List (List D)} {i h:Int}:1≤IntKind.i64.wrap (1+eJ rows i h 5)∧IntKind.i64.wrap (1+eJ rows i h 5) < 6:=by
 have:=aN (rows:=rows) (i:=i) (h:=h) (n:=5) ⟨by decide,by decide⟩
 rw [aD (by omega) (by omega)]
 omega
theorem jab {x n:Int} (h:x=n) (hn:1≤n∧n < 6):0≤x:=by omega
theorem jad {x n:Int} (h:x=n) (hn:1≤n∧n < 6):x < ((6:Nat):Int):=by omega
theorem xx {x n:Int} (h:x=n) (hn:1≤n∧n < 6):x.toNat < 6:=by omega
theorem jac {x n:Int} (h:x=n) (hn:1≤n∧n < 6):inK .i64 x:=ax (by omega)
section
variable {P:Program} {T:Tab} {f:FuncId}
def AnyY (P:Program) (T:Tab) (f:FuncId) (pre:List SV→Prop) {α:Type} (R:α→SV) (post:List SV→α→Prop):Prop :=
 ∃ g:List SV→α,FOk P T f { pre:=pre,res:=fun a=>R (g a) }∧∀ a,pre a→post a (g a)
theorem AnyY.of {pre:List SV→Prop} {α:Type} {R:α→SV} {post:List SV→α→Prop} (x0:List SV→α) (h0:∀ a,pre a→post a (x0 a)) (h:∃ g:List SV→α,FOk P T f { pre:=pre,res:=fun a=>R (g a) }∧∀ a,pre a→(∀ b ∈ a,WfSV T b)→post a (g a)):AnyY P T f pre R post:=by
 classical
 obtain ⟨g,k,q⟩:=h
 refine ⟨fun a=>if ∀ b ∈ a,WfSV T b then g a else x0 a,⟨k.call,(fun hb=>by cases hb),fun _ w X args vals a1 a2 a3 hpre=>?_,(fun hb=>by cases hb)⟩,fun a ha=>?_⟩
 · have:=k.ok rfl w X args vals a1 a2 a3 hpre
   have e:(if ∀ b ∈ args,WfSV T b then g args else x0 args)=g args:=if_pos a2.wfs
   simp only
   rw [e]
   exact this
 · show post a (if ∀ b ∈ a,WfSV T b then g a else x0 a)
   split
   · rename_i h;exact q a ha h
   · exact h0 a ha
end
def zOL:OLs:=⟨0,0,0,[],⟨0,0,⟨0,0,0,⟨#[]⟩,⟨#[]⟩,0⟩⟩,⟨#[]⟩,⟨#[]⟩,0,0,[]⟩
theorem xQ:zOL.ok:=⟨kk0,kk0,kk0,⟨jaU _,all0⟩,⟨kk0,kk0,kk0,kk0,kk0,jaU _,jaU _,kk0⟩,jaU _,jaU _,kk0,kk0,jaU _,all0⟩
theorem OpD.at {l:List (List D)} {k:Nat} (h:∀ y ∈ l,OpD y) (hk:k < l.length):OpD (l.getD k []):=di h hk
theorem RdD.w {r:List D} (h:RdD r):wRow r≤8:=by
 obtain ⟨k,n,t,s,v,rfl,_,_,_,hs,_⟩:=h
 simp only [wRow,wD,aP,jbh]
 have e:ByteArray.size { data:=#[] }=0:=rfl
 omega
theorem u7:∀ {l:List (List D)},(∀ r ∈ l,RdD r)→aP l≤l.length * 8
 | [],_=>ja9 _
 | r :: l,h=>by
   have h1:=(h r (jbo ..)).w
   have h2:=u7 (l:=l) fun x hx=>h x (jbC _ hx)
   simp only [aP,ja8]
   omega
theorem rds_w {l:List (List D)} (h:l.length≤8∧∀ r ∈ l,RdD r):l.length+aP l≤1048576:=by
 have:=u7 h.2
 omega
def len2 (m:List SV):Nat:=match m with
 | [.val _ [.sl _ _ a],.val _ [.sl _ _ b]]=>a.length+b.length
 | _=>0
end Go.Proofs.YtkpnfbdoaljkpaaGreatDoor.Ab
namespace Go.Proofs.YtkpnfbdoaljkpaaGreatDoor.Ab
open Go.RowKit
set_option linter.all false
set_option maxRecDepth 100000
set_option maxHeartbeats 2000000
theorem any177:AnyD Tryz.prog T 177 5 (fun m=>m=[]) (fun x:ByteArray=>.val false [.s x]) (fun (m:List SV) (x:ByteArray)=>x.size≤120):=by
 obtain ⟨g209,k209,q209⟩:=any209
 obtain ⟨g208d2,k208d2,q208d2⟩:=any208d2
 refine AnyD.of (fun _=>⟨#[]⟩) (fun _ _=>jaU _) (dN (α:=ByteArray × Int × Int) (fun _ z=>(fun x:ByteArray=>.val false [.s x]) z.1) (fun a z=>curU 5 a z.2.1 z.2.2) (post:=fun a z=>bh (rowsOf a) z.2.1∧(fun (m:List SV) (x:ByteArray)=>x.size≤120) a.tail z.1) (env:=envL [(46,(bH 5)),(140,(eh 5 9)),(89,cY),(208,spD 5 (fun m=>∃ l:List (List D),(TR 8 l∧1≤l.length∧l.length≤8)∧m=[argS 9 l,.val false [.i .i64 2]]) (fun x:EL=>.val true [.i .i64 x.k,.i .i64 x.n,.s x.t,.sl false 199 x.l]) g208d2),(209, { pre:=preE [.i .i64,.i .i64,.s,.l 199] 5,res:=fun a=>(fun x:ByteArray=>.val false [.s x]) (g209 a) })]) (N:=64) tabT (aa ok46 (aa ok140 (aa ok89 (aa k208d2 (aa k209 ae))))) mixed Tryz.func177 rfl Tryz.call177 Tryz.ntmps177 ?_)
 rintro cs args ⟨rows,i,h0,more,ok,hp,he⟩ hwf
 obtain ⟨rfl,rfl⟩:cs=curC 5 rows i h0∧args=more:=by simpa only [jbj,SV.tup.injEq,jbn,true_and,and_true] using he
 obtain rfl:=hp
 refine ⟨by simp,?_⟩
 clear he hwf
 rw [Tryz.results177]
 repeat' first
  | (refine And.intro ?_ ?_)
  | (intro h;simp only [reduceCtorEq] at h;done)
  | (intro h;rw [h])
  | (intro h)
 all_goals first
  | (show ac _=true;kernel_rfl)|(show aj _ _=true;kernel_rfl)|exact True.intro|exact Or.inr rfl|exact Or.inl rfl
  | (show aL _ _;rfl)
  | (show List.length _=_;rfl)
  | refine ⟨_,_,_,_,?_,⟨by decide,by decide⟩,rfl⟩
  | refine ⟨_,_,_,?_,rfl⟩
  | refine ⟨_,_,_,_,?_,⟨_,⟨((((TR.nil.add (by decide)).add (by decide)).add (by decide)).add (by decide)).add (by decide),by decide,by decide⟩,rfl⟩,rfl⟩
  | exact ⟨_,rfl⟩
  | exact ⟨_,(q208d2 _ _ _ _ (by repeat (first|exact ok|exact ok1|exact ok2|refine am ?_|refine (q208d2 _ _ _ _ ?_ ⟨_,⟨((((TR.nil.add (by decide)).add (by decide)).add (by decide)).add (by decide)).add (by decide),by decide,by decide⟩,rfl⟩).1)) ⟨_,⟨((((TR.nil.add (by decide)).add (by decide)).add (by decide)).add (by decide)).add (by decide),by decide,by decide⟩,rfl⟩).2,rfl⟩
  | ((with_reducible apply szT)
     · repeat (first|(with_reducible apply cat2)|exact ah (P:=fun t=>t.size≤24) (jaU _) (by intro r hr;simp only [az,ja2,jaZ,ja1,jaX,or_false] at hr;rcases hr with rfl|rfl|rfl|rfl|rfl <;> decide) _|exact ah (P:=fun t=>t.size≤32) (jaU _) (by intro r hr;simp only [az,ja2,jaZ,ja1,jaX,or_false] at hr;rcases hr with rfl|rfl|rfl|rfl|rfl|rfl|rfl|rfl|rfl <;> decide) _|exact kq (ax (av ⟨by decide,by decide⟩))|exact q209 _|exact ja9 _)
     · repeat (first|(with_reducible apply cat2)|exact ah (P:=fun t=>t.size≤24) (jaU _) (by intro r hr;simp only [az,ja2,jaZ,ja1,jaX,or_false] at hr;rcases hr with rfl|rfl|rfl|rfl|rfl <;> decide) _|exact ah (P:=fun t=>t.size≤32) (jaU _) (by intro r hr;simp only [az,ja2,jaZ,ja1,jaX,or_false] at hr;rcases hr with rfl|rfl|rfl|rfl|rfl|rfl|rfl|rfl|rfl <;> decide) _|exact kq (ax (av ⟨by decide,by decide⟩))|exact q209 _|exact ja9 _)
     · (try simp only [iG,jbr,ja8,jbh,maxLen,Nat.reduceAdd]);omega)
  | (refine ⟨(_,_,_),⟨(by repeat (first|exact ok|exact ok1|exact ok2|refine am ?_|refine (q208d2 _ _ _ _ ?_ ⟨_,⟨((((TR.nil.add (by decide)).add (by decide)).add (by decide)).add (by decide)).add (by decide),by decide,by decide⟩,rfl⟩).1)),?_⟩,rfl,rfl,True.intro⟩
     first
      | decide
      | (exact le120 (by with_reducible assumption))
      | (apply szE
         · repeat (first|(with_reducible apply cat2)|exact ah (P:=fun t=>t.size≤24) (jaU _) (by intro r hr;simp only [az,ja2,jaZ,ja1,jaX,or_false] at hr;rcases hr with rfl|rfl|rfl|rfl|rfl <;> decide) _|exact ah (P:=fun t=>t.size≤32) (jaU _) (by intro r hr;simp only [az,ja2,jaZ,ja1,jaX,or_false] at hr;rcases hr with rfl|rfl|rfl|rfl|rfl|rfl|rfl|rfl|rfl <;> decide) _|exact kq (ax (av ⟨by decide,by decide⟩))|exact q209 _|exact ja9 _)
         · (try simp only [iG,jbr,ja8,jbh,Nat.reduceAdd]);omega))
  | skip
 all_goals repeat (first|exact ok|exact ok1|exact ok2|refine am ?_|refine (q208d2 _ _ _ _ ?_ ⟨_,⟨((((TR.nil.add (by decide)).add (by decide)).add (by decide)).add (by decide)).add (by decide),by decide,by decide⟩,rfl⟩).1)
theorem any207:AnyD Tryz.prog T 207 5 (fun m=>m=[]) (fun x:ByteArray=>.val false [.s x]) (fun (m:List SV) (x:ByteArray)=>x.size≤700):=by
 obtain ⟨g231,k231,q231⟩:=any231
 refine AnyD.of (fun _=>⟨#[]⟩) (fun _ _=>jaU _) (dN (α:=ByteArray × Int × Int) (fun _ z=>(fun x:ByteArray=>.val false [.s x]) z.1) (fun a z=>curU 5 a z.2.1 z.2.2) (post:=fun a z=>bh (rowsOf a) z.2.1∧(fun (m:List SV) (x:ByteArray)=>x.size≤700) a.tail z.1) (env:=envL [(140,(eh 5 9)),(46,(bH 5)),(64,(jf true)),(89,cY),(124,dB),(83,(kd 5)),(231,spD 5 (fun m=>∃ (s:ByteArray) (l:List (List D)),(s.size≤500000∧bL (l.length:Int)∧∀ k,(((l.getD k []).getD 0 default).str).size≤20)∧m=[.val false [.s s],argS 9 l]) (fun x:ByteArray=>.val false [.s x]) g231)]) (N:=46) tabT (aa ok140 (aa ok46 (aa ok64 (aa ok89 (aa ok124 (aa ok83 (aa k231 ae))))))) mixed Tryz.func207 rfl Tryz.call207 Tryz.ntmps207 ?_)
 rintro cs args ⟨rows,i,h0,more,ok,hp,he⟩ hwf
 obtain ⟨rfl,rfl⟩:cs=curC 5 rows i h0∧args=more:=by simpa only [jbj,SV.tup.injEq,jbn,true_and,and_true] using he
 obtain rfl:=hp
 refine ⟨by simp,?_⟩
 clear he hwf
 rw [Tryz.results207]
 repeat' first
  | (refine And.intro ?_ ?_)
  | (intro h;simp only [reduceCtorEq] at h;done)
  | (intro h;rw [h])
  | (intro h)
 all_goals first
  | (show ac _=true;kernel_rfl)|(show aj _ _=true;kernel_rfl)|exact True.intro|exact Or.inr rfl|exact Or.inl rfl
  | (show aL _ _;rfl)
  | (show List.length _=_;rfl)
  | refine ⟨_,_,_,_,?_,⟨by decide,by decide⟩,rfl⟩
  | refine ⟨_,_,_,?_,rfl⟩
  | refine ⟨_,_,_,_,?_,⟨_,_,⟨by omega,⟨by decide,by decide⟩,fun k=>ah (P:=fun t=>t.size≤20) (jaU _) (by intro r hr;simp only [az,ja2,jaZ,ja1,jaX,or_false] at hr;rcases hr with rfl|rfl|rfl|rfl|rfl <;> decide) _⟩,rfl⟩,rfl⟩
  | exact ⟨_,ja0 (ah (P:=fun t=>t.size≤5) (jaU _) (by intro r hr;simp only [az,ja2,jaZ,ja1,jaX,or_false] at hr;rcases hr with rfl|rfl|rfl|rfl|rfl|rfl <;> decide) _) (by decide),rfl⟩
  | skip
 all_goals try ((with_reducible show bh _ _);repeat (first|exact ok|exact ok1|exact ok2|refine am ?_|refine (q231 _ _ _ _ ?_ ⟨_,_,⟨by omega,⟨by decide,by decide⟩,fun k=>ah (P:=fun t=>t.size≤20) (jaU _) (by intro r hr;simp only [az,ja2,jaZ,ja1,jaX,or_false] at hr;rcases hr with rfl|rfl|rfl|rfl|rfl <;> decide) _⟩,rfl⟩).1))
 refine ar (Q:=_) [0,3,4,5,6] [46] (fun q st=>∃ (s:ByteArray) (n m z I H:Int),st=([.ptr 46 0 0,.val false [.s s],.val false [.i .i64 n],.val false [.i .i64 m],.val false [.i .i64 z]],[(0,[.val false [.sl false 5 rows],.val false [.i .i64 I],.val false [.i .i64 H]])])∧(0≤n∧n≤3)∧(0≤m∧m≤6)∧s.size≤5+200 * z.toNat∧bh rows I∧0≤z∧z≤n∧q=n.toNat - z.toNat) ?_ ?_
 · exact ⟨rfl,_,_,_,_,0,_,_,rfl,⟨(aN (rows:=rows) (i:=_) (h:=_) (n:=4) ⟨by decide,by decide⟩).1,jcn (aN (rows:=rows) (i:=_) (h:=_) (n:=4) ⟨by decide,by decide⟩).2⟩,wlen (ah (P:=fun t=>t.size≤5) (jaU _) (by intro r hr;simp only [az,ja2,jaZ,ja1,jaX,or_false] at hr;rcases hr with rfl|rfl|rfl|rfl|rfl|rfl <;> decide) _),(ah (P:=fun t=>t.size≤5) (jaU _) (by intro r hr;simp only [az,ja2,jaZ,ja1,jaX,or_false] at hr;rcases hr with rfl|rfl|rfl|rfl|rfl|rfl <;> decide) _),(by repeat (first|exact ok|exact ok1|exact ok2|refine am ?_|refine (q231 _ _ _ _ ?_ ⟨_,_,⟨by omega,⟨by decide,by decide⟩,fun k=>ah (P:=fun t=>t.size≤20) (jaU _) (by intro r hr;simp only [az,ja2,jaZ,ja1,jaX,or_false] at hr;rcases hr with rfl|rfl|rfl|rfl|rfl <;> decide) _⟩,rfl⟩).1)),by decide,(aN (rows:=rows) (i:=_) (h:=_) (n:=4) ⟨by decide,by decide⟩).1,rfl⟩
 rintro q st ⟨s,n,m,z,I,H,rfl,hn,hm,hs,ok1,h1,h2,h3⟩
 repeat' first
  | (refine And.intro ?_ ?_)
  | (intro h;simp only [reduceCtorEq] at h;done)
  | (intro h;rw [h])
  | (intro h)
 all_goals first
  | (show ac _=true;kernel_rfl)|(show aj _ _=true;kernel_rfl)|exact True.intro|exact Or.inr rfl|exact Or.inl rfl
  | (show aL _ _;rfl)
  | (show List.length _=_;rfl)
  | exact ⟨_,_,_,_,(by repeat (first|exact ok|exact ok1|exact ok2|refine am ?_|refine (q231 _ _ _ _ ?_ ⟨_,_,⟨by omega,⟨by decide,by decide⟩,fun k=>ah (P:=fun t=>t.size≤20) (jaU _) (by intro r hr;simp only [az,ja2,jaZ,ja1,jaX,or_false] at hr;rcases hr with rfl|rfl|rfl|rfl|rfl <;> decide) _⟩,rfl⟩).1)),⟨by decide,by decide⟩,rfl⟩
  | exact ⟨_,_,_,_,(by repeat (first|exact ok|exact ok1|exact ok2|refine am ?_|refine (q231 _ _ _ _ ?_ ⟨_,_,⟨by omega,⟨by decide,by decide⟩,fun k=>ah (P:=fun t=>t.size≤20) (jaU _) (by intro r hr;simp only [az,ja2,jaZ,ja1,jaX,or_false] at hr;rcases hr with rfl|rfl|rfl|rfl|rfl <;> decide) _⟩,rfl⟩).1)),⟨_,_,⟨by omega,⟨by decide,by decide⟩,fun k=>ah (P:=fun t=>t.size≤20) (jaU _) (by intro r hr;simp only [az,ja2,jaZ,ja1,jaX,or_false] at hr;rcases hr with rfl|rfl|rfl|rfl|rfl <;> decide) _⟩,rfl⟩,rfl⟩
  | (refine ⟨(_,_,_),⟨(by repeat (first|exact ok|exact ok1|exact ok2|refine am ?_|refine (q231 _ _ _ _ ?_ ⟨_,_,⟨by omega,⟨by decide,by decide⟩,fun k=>ah (P:=fun t=>t.size≤20) (jaU _) (by intro r hr;simp only [az,ja2,jaZ,ja1,jaX,or_false] at hr;rcases hr with rfl|rfl|rfl|rfl|rfl <;> decide) _⟩,rfl⟩).1)),?_⟩,rfl,rfl,True.intro⟩
     first
      | (show s.size≤700;omega)
      | exact ja0 (q231 _ _ _ _ (by repeat (first|exact ok|exact ok1|exact ok2|refine am ?_|refine (q231 _ _ _ _ ?_ ⟨_,_,⟨by omega,⟨by decide,by decide⟩,fun k=>ah (P:=fun t=>t.size≤20) (jaU _) (by intro r hr;simp only [az,ja2,jaZ,ja1,jaX,or_false] at hr;rcases hr with rfl|rfl|rfl|rfl|rfl <;> decide) _⟩,rfl⟩).1)) ⟨_,_,⟨by omega,⟨by decide,by decide⟩,fun k=>ah (P:=fun t=>t.size≤20) (jaU _) (by intro r hr;simp only [az,ja2,jaZ,ja1,jaX,or_false] at hr;rcases hr with rfl|rfl|rfl|rfl|rfl <;> decide) _⟩,rfl⟩).2 (show s.size+20≤700 by omega))
  | skip
 have hz:z < n:=jaT ‹decide (z < n)=true›
 refine ar (Q:=_) [0,3,4,5,6,7,8] [46] (fun q st=>∃ (r:List (List D)) (k I2 H2:Int),st=([.ptr 46 0 0,.val false [.s s],.val false [.i .i64 n],.val false [.i .i64 m],.val false [.i .i64 z],.val false [.sl true 9 r],.val false [.i .i64 k]],[(0,[.val false [.sl false 5 rows],.val false [.i .i64 I2],.val false [.i .i64 H2]])])∧TR 11 r∧r.length=k.toNat∧bh rows I2∧0≤k∧k≤m∧q=m.toNat - k.toNat) ?_ ?_
 · exact ⟨rfl,_,_,0,_,_,rfl,TR.nil,rfl,ok1,by decide,hm.1,rfl⟩
 rintro q2 st2 ⟨r,k,I2,H2,rfl,hT,hrl,ok2,k1,k2,k3⟩
 repeat' first
  | (refine And.intro ?_ ?_)
  | (intro h;simp only [reduceCtorEq] at h;done)
  | (intro h;rw [h])
  | (intro h)
 all_goals first
  | (show ac _=true;kernel_rfl)|(show aj _ _=true;kernel_rfl)|exact True.intro|exact Or.inr rfl|exact Or.inl rfl
  | (show aL _ _;rfl)
  | (show List.length _=_;rfl)
  | exact ⟨_,_,_,_,(by repeat (first|exact ok|exact ok1|exact ok2|refine am ?_|refine (q231 _ _ _ _ ?_ ⟨_,_,⟨by omega,⟨by decide,by decide⟩,fun k=>ah (P:=fun t=>t.size≤20) (jaU _) (by intro r hr;simp only [az,ja2,jaZ,ja1,jaX,or_false] at hr;rcases hr with rfl|rfl|rfl|rfl|rfl <;> decide) _⟩,rfl⟩).1)),⟨by decide,by decide⟩,rfl⟩
  | exact ⟨_,rfl⟩
  | (show r.length+1≤maxLen;simp only [maxLen];omega)
  | (show (r.length+1) * 16≤140737488355328;omega)
  | (show s.size+2≤maxLen;simp only [maxLen];omega)
  | exact ⟨_,_,by omega,ja0 (kU hT) (by omega),rfl⟩
  | (show (s++_).size+_≤maxLen;have:=kU hT;rw [jbe];show s.size+2+_≤maxLen;simp only [maxLen];omega)
  | (have hk:k < m:=jaT ‹decide (k < m)=true›
     refine ⟨m.toNat - (k+1).toNat,by omega,_,k+1,_,_,congrArg (fun x=>(([.ptr 46 0 0,.val false [.s s],.val false [.i .i64 n],.val false [.i .i64 m],.val false [.i .i64 z],.val false [.sl true 9 _],.val false [.i .i64 x]],[(0,[.val false [.sl false 5 rows],.val false [.i .i64 _],.val false [.i .i64 _]])]):Snap)) (aD (by omega) (by omega)),hT.add (cK (qS (av ⟨by decide,by decide⟩))),by rw [jaV,hrl];show k.toNat+1=_;omega,(by repeat (first|exact ok|exact ok1|exact ok2|refine am ?_|refine (q231 _ _ _ _ ?_ ⟨_,_,⟨by omega,⟨by decide,by decide⟩,fun k=>ah (P:=fun t=>t.size≤20) (jaU _) (by intro r hr;simp only [az,ja2,jaZ,ja1,jaX,or_false] at hr;rcases hr with rfl|rfl|rfl|rfl|rfl <;> decide) _⟩,rfl⟩).1)),by omega,by omega,rfl⟩)
  | (refine ⟨n.toNat - (z+1).toNat,by omega,_,n,m,z+1,_,_,congrArg (fun x=>(([.ptr 46 0 0,.val false [.s _],.val false [.i .i64 n],.val false [.i .i64 m],.val false [.i .i64 x]],[(0,[.val false [.sl false 5 rows],.val false [.i .i64 _],.val false [.i .i64 _]])]):Snap)) (aD (by omega) (by omega)),hn,hm,?_,ok2,by omega,by omega,rfl⟩
     have:=kU hT
     rw [jbe,jbe]
     show s.size+2+_≤_
     omega)
  | skip
theorem any176:AnyD Tryz.prog T 176 5 (fun m=>∃ n:Int,m=[.val false [.i .i64 n]]) (fun x:CLs=>.val true [.i .i64 x.id,.i .i64 x.ve,.i .i64 x.k,.s x.nm,.s x.cd,.i .i64 x.n]) (fun (m:List SV) (x:CLs)=>x.id=nOfM m∧x.ok):=by
 obtain ⟨g85,k85,q85⟩:=any85
 obtain ⟨g177,k177,q177⟩:=any177
 obtain ⟨g207,k207,q207⟩:=any207
 refine AnyD.of (fun m=>⟨nOfM m,0,0,⟨#[]⟩,⟨#[]⟩,0⟩) (fun m _=>⟨rfl,kk0,kk0,jaU _,jaU _,kk0⟩) (dN (α:=CLs × Int × Int) (fun _ z=>(fun x:CLs=>.val true [.i .i64 x.id,.i .i64 x.ve,.i .i64 x.k,.s x.nm,.s x.cd,.i .i64 x.n]) z.1) (fun a z=>curU 5 a z.2.1 z.2.2) (post:=fun a z=>bh (rowsOf a) z.2.1∧(fun (m:List SV) (x:CLs)=>x.id=nOfM m∧x.ok) a.tail z.1) (env:=envL [(46,(bH 5)),(85,spD 5 (fun m=>∃ l:List (List D),bL (l.length:Int)∧m=[argS 3 l]) (fun x:Int=>.val false [.i .i64 x]) g85),(140,(eh 5 9)),(177,spD 5 (fun m=>m=[]) (fun x:ByteArray=>.val false [.s x]) g177),(207,spD 5 (fun m=>m=[]) (fun x:ByteArray=>.val false [.s x]) g207)]) (N:=42) tabT (aa ok46 (aa k85 (aa ok140 (aa k177 (aa k207 ae))))) mixed Tryz.func176 rfl Tryz.call176 Tryz.ntmps176 ?_)
 rintro cs args ⟨rows,i,h0,more,ok,hp,he⟩ hwf
 obtain ⟨rfl,rfl⟩:cs=curC 5 rows i h0∧args=more:=by simpa only [jbj,SV.tup.injEq,jbn,true_and,and_true] using he
 obtain ⟨n,rfl⟩:=hp
 refine ⟨by simp,?_⟩
 clear he hwf
 rw [Tryz.results176]
 repeat' first
  | (refine And.intro ?_ ?_)
  | (intro h;simp only [reduceCtorEq] at h;done)
  | (intro h;rw [h])
  | (intro h)
 all_goals first
  | (show ac _=true;kernel_rfl)|(show aj _ _=true;kernel_rfl)|exact True.intro|exact Or.inr rfl|exact Or.inl rfl
  | (show aL _ _;rfl)
  | (show List.length _=_;rfl)
  | refine ⟨_,_,_,_,?_,⟨by decide,by decide⟩,rfl⟩
  | refine ⟨_,_,_,?_,rfl⟩
  | refine ⟨_,_,_,_,?_,⟨_,⟨by decide,by decide⟩,rfl⟩,rfl⟩
  | refine ⟨_,_,_,_,?_,rfl,rfl⟩
  | refine ⟨_,_,_,_,?_,rfl,rfl⟩
  | (refine ⟨(⟨_,_,_,_,_,_⟩,_,_),⟨?_,?_⟩,rfl,rfl,True.intro⟩;rotate_left;refine ⟨rfl,aK _ _,?_,?_,?_,?_⟩
     · exact ((q85 _ _ _ _ (by repeat (first|exact ok|exact ok1|exact ok2|refine am ?_|refine (q85 _ _ _ _ ?_ ⟨_,⟨by decide,by decide⟩,rfl⟩).1|refine (q177 _ _ _ _ ?_ rfl).1|refine (q207 _ _ _ _ ?_ rfl).1)) ⟨_,⟨by decide,by decide⟩,rfl⟩).2 (inK .i64) kk0 (by intro r hr;simp only [az,ja2,jaZ,ja1,jaX,or_false] at hr;rcases hr with rfl|rfl|rfl|rfl|rfl|rfl|rfl|rfl <;> exact ⟨by decide,by decide⟩))
     · first|exact ah (P:=fun t=>t.size≤8) (jaU _) (by intro r hr;simp only [az,ja2,jaZ,ja1,jaX,or_false] at hr;rcases hr with rfl|rfl|rfl|rfl|rfl <;> decide) _|exact jaU _|decide
     · first|exact ah (P:=fun t=>t.size≤700) (jaU _) (by intro r hr;simp only [az,ja2,jaZ,ja1,jaX,or_false] at hr;rcases hr with rfl|rfl|rfl <;> decide) _|exact ja0 (q177 _ _ _ _ (by repeat (first|exact ok|exact ok1|exact ok2|refine am ?_|refine (q85 _ _ _ _ ?_ ⟨_,⟨by decide,by decide⟩,rfl⟩).1|refine (q177 _ _ _ _ ?_ rfl).1|refine (q207 _ _ _ _ ?_ rfl).1)) rfl).2 (by decide)|exact (q207 _ _ _ _ (by repeat (first|exact ok|exact ok1|exact ok2|refine am ?_|refine (q85 _ _ _ _ ?_ ⟨_,⟨by decide,by decide⟩,rfl⟩).1|refine (q177 _ _ _ _ ?_ rfl).1|refine (q207 _ _ _ _ ?_ rfl).1)) rfl).2|decide|exact jaU _
     · first|exact kk0|exact ax (av ⟨by decide,by decide⟩))
  | skip
 all_goals repeat (first|exact ok|exact ok1|exact ok2|refine am ?_|refine (q85 _ _ _ _ ?_ ⟨_,⟨by decide,by decide⟩,rfl⟩).1|refine (q177 _ _ _ _ ?_ rfl).1|refine (q207 _ _ _ _ ?_ rfl).1)
theorem any138:AnyD Tryz.prog T 138 5 (fun m=>m=[]) (fun x:EDs=>.val true [.i .i64 x.k,.i .i64 x.at_,.i .i64 x.c.id,.i .i64 x.c.ve,.i .i64 x.c.k,.s x.c.nm,.s x.c.cd,.i .i64 x.c.n]) (fun (m:List SV) (x:EDs)=>x.ok):=by
 obtain ⟨g85,k85,q85⟩:=any85
 obtain ⟨g176,k176,q176⟩:=any176
 obtain ⟨g177,k177,q177⟩:=any177
 refine AnyD.of (fun _=>⟨0,0,⟨0,0,0,⟨#[]⟩,⟨#[]⟩,0⟩⟩) (fun _ _=>⟨kk0,kk0,kk0,kk0,kk0,jaU _,jaU _,kk0⟩) (dN (α:=EDs × Int × Int) (fun _ z=>(fun x:EDs=>.val true [.i .i64 x.k,.i .i64 x.at_,.i .i64 x.c.id,.i .i64 x.c.ve,.i .i64 x.c.k,.s x.c.nm,.s x.c.cd,.i .i64 x.c.n]) z.1) (fun a z=>curU 5 a z.2.1 z.2.2) (post:=fun a z=>bh (rowsOf a) z.2.1∧(fun (m:List SV) (x:EDs)=>x.ok) a.tail z.1) (env:=envL [(85,spD 5 (fun m=>∃ l:List (List D),bL (l.length:Int)∧m=[argS 3 l]) (fun x:Int=>.val false [.i .i64 x]) g85),(46,(bH 5)),(176,spD 5 (fun m=>∃ n:Int,m=[.val false [.i .i64 n]]) (fun x:CLs=>.val true [.i .i64 x.id,.i .i64 x.ve,.i .i64 x.k,.s x.nm,.s x.cd,.i .i64 x.n]) g176),(177,spD 5 (fun m=>m=[]) (fun x:ByteArray=>.val false [.s x]) g177)]) (N:=35) tabT (aa k85 (aa ok46 (aa k176 (aa k177 ae)))) mixed Tryz.func138 rfl Tryz.call138 Tryz.ntmps138 ?_)
 rintro cs args ⟨rows,i,h0,more,ok,hp,he⟩ hwf
 obtain ⟨rfl,rfl⟩:cs=curC 5 rows i h0∧args=more:=by simpa only [jbj,SV.tup.injEq,jbn,true_and,and_true] using he
 obtain rfl:=hp
 refine ⟨by simp,?_⟩
 clear he hwf
 rw [Tryz.results138]
 repeat' first
  | (refine And.intro ?_ ?_)
  | (intro h;simp only [reduceCtorEq] at h;done)
  | (intro h;rw [h])
  | (intro h)
 all_goals first
  | (show ac _=true;kernel_rfl)|(show aj _ _=true;kernel_rfl)|exact True.intro|exact Or.inr rfl|exact Or.inl rfl
  | (show aL _ _;rfl)
  | (show List.length _=_;rfl)
  | refine ⟨_,_,_,_,?_,⟨by decide,by decide⟩,rfl⟩
  | refine ⟨_,_,_,?_,rfl⟩
  | refine ⟨_,_,_,_,?_,⟨_,⟨by decide,by decide⟩,rfl⟩,rfl⟩
  | refine ⟨_,_,_,_,?_,⟨_,rfl⟩,rfl⟩
  | refine ⟨_,_,_,_,?_,rfl,rfl⟩
  | exact jab (q176 _ _ _ _ (by repeat (first|exact ok|exact ok1|exact ok2|refine am ?_|refine (q85 _ _ _ _ ?_ ⟨_,⟨by decide,by decide⟩,rfl⟩).1|refine (q176 _ _ _ _ ?_ ⟨_,rfl⟩).1|refine (q177 _ _ _ _ ?_ rfl).1)) ⟨_,rfl⟩).2.1 id5
  | exact jad (q176 _ _ _ _ (by repeat (first|exact ok|exact ok1|exact ok2|refine am ?_|refine (q85 _ _ _ _ ?_ ⟨_,⟨by decide,by decide⟩,rfl⟩).1|refine (q176 _ _ _ _ ?_ ⟨_,rfl⟩).1|refine (q177 _ _ _ _ ?_ rfl).1)) ⟨_,rfl⟩).2.1 id5
  | exact xx (q176 _ _ _ _ (by repeat (first|exact ok|exact ok1|exact ok2|refine am ?_|refine (q85 _ _ _ _ ?_ ⟨_,⟨by decide,by decide⟩,rfl⟩).1|refine (q176 _ _ _ _ ?_ ⟨_,rfl⟩).1|refine (q177 _ _ _ _ ?_ rfl).1)) ⟨_,rfl⟩).2.1 id5
  | (refine ⟨(⟨_,_,⟨_,_,_,D.str _,_,_⟩⟩,_,_),⟨?_,?_⟩,rfl,rfl,True.intro⟩;rotate_left;refine ⟨?_,?_,?_,?_,?_,?_,?_,?_⟩
     · exact ((q85 _ _ _ _ (by repeat (first|exact ok|exact ok1|exact ok2|refine am ?_|refine (q85 _ _ _ _ ?_ ⟨_,⟨by decide,by decide⟩,rfl⟩).1|refine (q176 _ _ _ _ ?_ ⟨_,rfl⟩).1|refine (q177 _ _ _ _ ?_ rfl).1)) ⟨_,⟨by decide,by decide⟩,rfl⟩).2 (inK .i64) kk0 (by intro r hr;simp only [az,ja2,jaZ,ja1,jaX,or_false] at hr;rcases hr with rfl|rfl|rfl|rfl|rfl|rfl|rfl|rfl|rfl|rfl <;> exact ⟨by decide,by decide⟩))
     · exact ax (av ⟨by decide,by decide⟩)
     · exact jac (q176 _ _ _ _ (by repeat (first|exact ok|exact ok1|exact ok2|refine am ?_|refine (q85 _ _ _ _ ?_ ⟨_,⟨by decide,by decide⟩,rfl⟩).1|refine (q176 _ _ _ _ ?_ ⟨_,rfl⟩).1|refine (q177 _ _ _ _ ?_ rfl).1)) ⟨_,rfl⟩).2.1 id5
     · exact (q176 _ _ _ _ (by repeat (first|exact ok|exact ok1|exact ok2|refine am ?_|refine (q85 _ _ _ _ ?_ ⟨_,⟨by decide,by decide⟩,rfl⟩).1|refine (q176 _ _ _ _ ?_ ⟨_,rfl⟩).1|refine (q177 _ _ _ _ ?_ rfl).1)) ⟨_,rfl⟩).2.2.1
     · first|exact kk2|exact (q176 _ _ _ _ (by repeat (first|exact ok|exact ok1|exact ok2|refine am ?_|refine (q85 _ _ _ _ ?_ ⟨_,⟨by decide,by decide⟩,rfl⟩).1|refine (q176 _ _ _ _ ?_ ⟨_,rfl⟩).1|refine (q177 _ _ _ _ ?_ rfl).1)) ⟨_,rfl⟩).2.2.2.1
     · exact ah (P:=fun t=>t.size≤8) (jaU _) (by intro r hr;simp only [az,ja2,jaZ,ja1,jaX,or_false] at hr;rcases hr with rfl|rfl|rfl|rfl|rfl|rfl <;> decide) _
     · first|exact ja0 (q177 _ _ _ _ (by repeat (first|exact ok|exact ok1|exact ok2|refine am ?_|refine (q85 _ _ _ _ ?_ ⟨_,⟨by decide,by decide⟩,rfl⟩).1|refine (q176 _ _ _ _ ?_ ⟨_,rfl⟩).1|refine (q177 _ _ _ _ ?_ rfl).1)) rfl).2 (by decide)|exact (q176 _ _ _ _ (by repeat (first|exact ok|exact ok1|exact ok2|refine am ?_|refine (q85 _ _ _ _ ?_ ⟨_,⟨by decide,by decide⟩,rfl⟩).1|refine (q176 _ _ _ _ ?_ ⟨_,rfl⟩).1|refine (q177 _ _ _ _ ?_ rfl).1)) ⟨_,rfl⟩).2.2.2.2.2.1
     · exact (q176 _ _ _ _ (by repeat (first|exact ok|exact ok1|exact ok2|refine am ?_|refine (q85 _ _ _ _ ?_ ⟨_,⟨by decide,by decide⟩,rfl⟩).1|refine (q176 _ _ _ _ ?_ ⟨_,rfl⟩).1|refine (q177 _ _ _ _ ?_ rfl).1)) ⟨_,rfl⟩).2.2.2.2.2.2)
  | skip
 all_goals repeat (first|exact ok|exact ok1|exact ok2|refine am ?_|refine (q85 _ _ _ _ ?_ ⟨_,⟨by decide,by decide⟩,rfl⟩).1|refine (q176 _ _ _ _ ?_ ⟨_,rfl⟩).1|refine (q177 _ _ _ _ ?_ rfl).1)
def cpG (T:Tab) (cts:List CT):FSpec where
 pre args:=∃ a:List D,WfRow T cts a∧wRow a≤1048576∧args=[argG cts a]
 res args:=match args with
  | [a]=>a
  | _=>.none
def cpGn (T:Tab) (cts:List CT) (n:Nat):FSpec where
 pre args:=∃ a:List D,WfRow T cts a∧SizeOf.sizeOf a < n∧wRow a≤1048576∧args=[argG cts a]
 res:=(cpG T cts).res
def cpS (e:TypeId):FSpec where
 pre args:=∃ a:List (List D),a.length+aP a≤1048576∧args=[argS e a]
 res args:=match args with
  | [.val _ [.sl _ _ a]]=>.val false [.sl true e a]
  | _=>.none
theorem kF {a:List (List D)} {i:Int} (h0:0≤i) (hi:i < a.length) {r:List D} (hr:r=a.getD i.toNat []):a.take i.toNat++[r]=a.take (i+1).toNat:=by
 have e:(i+1).toNat=i.toNat+1:=by omega
 rw [e,jbS,fj h0 hi,hr]
 rfl
theorem kG {a:List (List D)} {i:Int} (h0:0≤i) (hi:i≤a.length) (h:decide (i < (a.length:Int))=false):a.take i.toNat=a:=by
 have:¬ i < (a.length:Int):=ja4 h
 rw [show i.toNat=a.length by omega,jbM]
theorem take_len {a:List (List D)} {i:Int} (h0:0≤i) (hi:i≤a.length):(a.take i.toNat).length=i.toNat:=by
 rw [jbc,jb8 (by omega)]
theorem aH {a:List D} (hw:wRow a≤1048576) (j:Nat):(a.getD j default).rows.length+aP (a.getD j default).rows≤1048576:=ja0 (bR a j) hw
theorem tp {T:Tab} {cts:List CT} {a:List D} (k n:Nat) (wa:WfRow T cts a) (hk:k+n≤cts.length) (hw:wRow a≤1048576):wRow (sub a k n)≤1048576:=ja0 (qn (by rw [wa.1];exact hk)) hw
theorem wG (f:List (List D)→Int→Snap) {r r' : List (List D)} {a b:Int} (h:r=r') (h2:a=b):f r a=f r' b:=by rw [h,h2]
theorem resSl {e:TypeId} {a b:List (List D)} (h:a=b):[CV.sl true e a]=[CV.sl true e b]:=by rw [h]
theorem ok275:FOk Tryz.prog T 275 (cpG T [.l 3,.l 167]):=by
 refine fok (env:=envL []) (N:=12) tabT ae mixed Tryz.func275 rfl Tryz.call275 Tryz.ntmps275 ?_
 rintro args ⟨a,wa,hw,rfl⟩ hwf
 refine ⟨by simp,?_⟩
 clear hwf
 rw [Tryz.results275]
 repeat' first
  | (refine And.intro ?_ ?_)
  | (intro h;simp only [reduceCtorEq] at h;done)
  | (intro h;rw [h])
  | (intro h)
 all_goals first
  | (show ac _=true;kernel_rfl)|(show aj _ _=true;kernel_rfl)|exact True.intro|exact Or.inr rfl|exact Or.inl rfl
  | exact ⟨_,aH hw 0,rfl⟩
  | exact ⟨_,aH hw 1,rfl⟩
  | (have q:=aH hw 0;show 0+(a.getD 0 default).rows.length≤maxLen;simp only [maxLen];omega)
  | (have q:=aH hw 1;show 0+(a.getD 1 default).rows.length≤maxLen;simp only [maxLen];omega)
  | (have q:=aH hw 0;show (0+(a.getD 0 default).rows.length) * 8≤140737488355328;omega)
  | (have q:=aH hw 1;show (0+(a.getD 1 default).rows.length) * 16≤140737488355328;omega)
  | rfl
  | skip
theorem wi (n:Nat) (hn:FOk Tryz.prog T 257 (cpGn T cV n)):FOk Tryz.prog T 257 (cpGn T cV (n+1)):=by
 refine fok (env:=envL [(257,(cpGn T cV n)),(275,(cpG T [.l 3,.l 167]))]) (N:=56) tabT (aa hn (aa ok275 ae)) mixed Tryz.func257 rfl Tryz.call257 Tryz.ntmps257 ?_
 rintro args ⟨a,wa,hs,hw,rfl⟩ hwf
 clear hwf
 refine ⟨by simp,?_⟩
 rw [Tryz.results257]
 repeat' first
  | (refine And.intro ?_ ?_)
  | (intro h;simp only [reduceCtorEq] at h;done)
  | (intro h;rw [h])
  | (intro h)
 all_goals first
  | (show ac _=true;kernel_rfl)|(show aj _ _=true;kernel_rfl)|exact True.intro|exact Or.inr rfl|exact Or.inl rfl
  | exact ⟨_,aH hw 4,rfl⟩
  | exact ⟨_,aH hw 5,rfl⟩
  | exact ⟨_,aH hw 6,rfl⟩
  | exact ⟨_,jbR (bW (by rw [wa.1];decide)) (jcL hs),aH hw 4,rfl⟩
  | exact ⟨_,jbR (bW (by rw [wa.1];decide)) (jcL hs),aH hw 5,rfl⟩
  | exact ⟨_,jbR (bW (by rw [wa.1];decide)) (jcL hs),aH hw 6,rfl⟩
  | (have q:=aH hw 4;show 0+(a.getD 4 default).rows.length≤maxLen;simp only [maxLen];omega)
  | (have q:=aH hw 5;show 0+(a.getD 5 default).rows.length≤maxLen;simp only [maxLen];omega)
  | (have q:=aH hw 6;show 0+(a.getD 6 default).rows.length≤maxLen;simp only [maxLen];omega)
  | (have q:=aH hw 4;show (0+(a.getD 4 default).rows.length) * 112≤140737488355328;omega)
  | (have q:=aH hw 5;show (0+(a.getD 5 default).rows.length) * 16≤140737488355328;omega)
  | (have q:=aH hw 6;show (0+(a.getD 6 default).rows.length) * 48≤140737488355328;omega)
  | skip
 have wR0:WfD T (.l 53) (.l (a.getD 4 default).rows):=wa.rows (j:=4) rfl
 have lR0:(a.getD 4 default).rows.length≤maxLen:=wR0.len
 have hR0:=aH hw 4
 have zR0:SizeOf.sizeOf (a.getD 4 default).rows < SizeOf.sizeOf a:=bW (by rw [wa.1];decide)
 refine ar (Q:=_) [1,2,3,4] [1,2,3] (fun n s=>∃ i:Int,s=([.ptr 1 1 0,.ptr 2 1 0,.ptr 3 1 0,.val false [.i .i64 i]],[(1,(rowC cV a).map fun c=>.val false [c]),(1,[.val false [.i .i64 0],.val false [.i .i64 0],.val false [.i .i64 0],.val false [.s ByteArray.empty],.val false [.sl true 53 []],.val false [.sl true 9 []],.val false [.sl true 131 []]]),(1,[.val false [.i .i64 (a.getD 0 default).int],.val false [.i .i64 (a.getD 1 default).int],.val false [.i .i64 (a.getD 2 default).int],.val false [.s (a.getD 3 default).str],.val false [.sl true 53 ((a.getD 4 default).rows.take i.toNat)],.val false [.sl true 9 (a.getD 5 default).rows],.val false [.sl true 131 []]])])∧0≤i∧i≤(a.getD 4 default).rows.length∧n=(a.getD 4 default).rows.length - i.toNat) ?_ ?_
 · exact ⟨rfl,(a.getD 4 default).rows.length - 0,0,rfl,by omega,by omega,rfl⟩
 rintro n0 s ⟨i,rfl,h1,h2,h3⟩
 repeat' first
  | (refine And.intro ?_ ?_)
  | (intro h;simp only [reduceCtorEq] at h;done)
  | (intro h;rw [h])
  | (intro h)
 all_goals first
  | (show ac _=true;kernel_rfl)|(show aj _ _=true;kernel_rfl)|exact True.intro|exact Or.inr rfl|exact Or.inl rfl
  | omega
  | exact jaT ‹_›
  | (have hi:i < ((a.getD 4 default).rows.length:Int):=jaT ‹decide (i < ((a.getD 4 default).rows.length:Int))=true›
     have wr:WfRow T cV ((a.getD 4 default).rows.getD i.toNat []):=wR0.row rfl (by omega)
     have hwr:=iR (a:=(a.getD 4 default).rows) (k:=i.toNat) (by omega)
     first
      | exact ⟨_,wr,by omega,rfl⟩
      | exact ⟨_,wr,jbR (Nat.lt_trans (b8 (by omega)) zR0) (jcL hs),by omega,rfl⟩
      | (rw [take_len h1 h2];show i.toNat+1≤maxLen;simp only [maxLen];omega)
      | (rw [take_len h1 h2];show (i.toNat+1) * 112≤_;omega)
      | (refine ⟨(a.getD 4 default).rows.length - (i+1).toNat,by omega,i+1,?_,by omega,by omega,rfl⟩
         exact wG (fun r z=>(([.ptr 1 1 0,.ptr 2 1 0,.ptr 3 1 0,.val false [.i .i64 z]],[(1,(rowC cV a).map fun c=>.val false [c]),(1,[.val false [.i .i64 0],.val false [.i .i64 0],.val false [.i .i64 0],.val false [.s ByteArray.empty],.val false [.sl true 53 []],.val false [.sl true 9 []],.val false [.sl true 131 []]]),(1,[.val false [.i .i64 (a.getD 0 default).int],.val false [.i .i64 (a.getD 1 default).int],.val false [.i .i64 (a.getD 2 default).int],.val false [.s (a.getD 3 default).str],.val false [.sl true 53 r],.val false [.sl true 9 (a.getD 5 default).rows],.val false [.sl true 131 []]])]):Snap)) (kF h1 hi (aC wr)) (aA h1 hi lR0)))
  | exact rfl
  | skip
 have hT0:(a.getD 4 default).rows.take i.toNat=(a.getD 4 default).rows:=kG h1 h2 ‹decide (i < ((a.getD 4 default).rows.length:Int))=false›
 rw [hT0]
 clear h1 h2 h3 hT0
 have wR1:WfD T (.l 131) (.l (a.getD 6 default).rows):=wa.rows (j:=6) rfl
 have lR1:(a.getD 6 default).rows.length≤maxLen:=wR1.len
 have hR1:=aH hw 6
 have zR1:SizeOf.sizeOf (a.getD 6 default).rows < SizeOf.sizeOf a:=bW (by rw [wa.1];decide)
 refine ar (Q:=_) [1,2,3,5] [1,2,3] (fun n s=>∃ i:Int,s=([.ptr 1 1 0,.ptr 2 1 0,.ptr 3 1 0,.val false [.i .i64 i]],[(1,(rowC cV a).map fun c=>.val false [c]),(1,[.val false [.i .i64 0],.val false [.i .i64 0],.val false [.i .i64 0],.val false [.s ByteArray.empty],.val false [.sl true 53 []],.val false [.sl true 9 []],.val false [.sl true 131 []]]),(1,[.val false [.i .i64 (a.getD 0 default).int],.val false [.i .i64 (a.getD 1 default).int],.val false [.i .i64 (a.getD 2 default).int],.val false [.s (a.getD 3 default).str],.val false [.sl true 53 (a.getD 4 default).rows],.val false [.sl true 9 (a.getD 5 default).rows],.val false [.sl true 131 ((a.getD 6 default).rows.take i.toNat)]])])∧0≤i∧i≤(a.getD 6 default).rows.length∧n=(a.getD 6 default).rows.length - i.toNat) ?_ ?_
 · exact ⟨rfl,(a.getD 6 default).rows.length - 0,0,rfl,by omega,by omega,rfl⟩
 rintro n1 s ⟨i,rfl,h1,h2,h3⟩
 repeat' first
  | (refine And.intro ?_ ?_)
  | (intro h;simp only [reduceCtorEq] at h;done)
  | (intro h;rw [h])
  | (intro h)
 all_goals first
  | (show ac _=true;kernel_rfl)|(show aj _ _=true;kernel_rfl)|exact True.intro|exact Or.inr rfl|exact Or.inl rfl
  | omega
  | exact jaT ‹_›
  | (have hi:i < ((a.getD 6 default).rows.length:Int):=jaT ‹decide (i < ((a.getD 6 default).rows.length:Int))=true›
     have wr:WfRow T [.l 3,.l 167] ((a.getD 6 default).rows.getD i.toNat []):=wR1.row rfl (by omega)
     have hwr:=iR (a:=(a.getD 6 default).rows) (k:=i.toNat) (by omega)
     first
      | exact ⟨_,wr,by omega,rfl⟩
      | exact ⟨_,wr,jbR (Nat.lt_trans (b8 (by omega)) zR1) (jcL hs),by omega,rfl⟩
      | (rw [take_len h1 h2];show i.toNat+1≤maxLen;simp only [maxLen];omega)
      | (rw [take_len h1 h2];show (i.toNat+1) * 48≤_;omega)
      | (refine ⟨(a.getD 6 default).rows.length - (i+1).toNat,by omega,i+1,?_,by omega,by omega,rfl⟩
         exact wG (fun r z=>(([.ptr 1 1 0,.ptr 2 1 0,.ptr 3 1 0,.val false [.i .i64 z]],[(1,(rowC cV a).map fun c=>.val false [c]),(1,[.val false [.i .i64 0],.val false [.i .i64 0],.val false [.i .i64 0],.val false [.s ByteArray.empty],.val false [.sl true 53 []],.val false [.sl true 9 []],.val false [.sl true 131 []]]),(1,[.val false [.i .i64 (a.getD 0 default).int],.val false [.i .i64 (a.getD 1 default).int],.val false [.i .i64 (a.getD 2 default).int],.val false [.s (a.getD 3 default).str],.val false [.sl true 53 (a.getD 4 default).rows],.val false [.sl true 9 (a.getD 5 default).rows],.val false [.sl true 131 r]])]):Snap)) (kF h1 hi (aC wr)) (aA h1 hi lR1)))
  | exact rfl
  | skip
 have hT1:(a.getD 6 default).rows.take i.toNat=(a.getD 6 default).rows:=kG h1 h2 ‹decide (i < ((a.getD 6 default).rows.length:Int))=false›
 rw [hT1]
 rfl
theorem vC:FOk Tryz.prog T 257 (cpGn T cV 0):=by
 refine fok (env:=envL []) (N:=56) tabT ae mixed Tryz.func257 rfl Tryz.call257 Tryz.ntmps257 ?_
 rintro args ⟨a,wa,hs,hw,rfl⟩ _
 exact absurd hs (jbJ _)
theorem jaN (n:Nat):FOk Tryz.prog T 257 (cpGn T cV n):=by
 induction n with
 | zero=>exact vC
 | succ n ih=>exact wi n ih
theorem ok257:FOk Tryz.prog T 257 (cpG T cV):=FOk.lift (s:=fun n=>(cpGn T cV n)) jaN (fun args ⟨a,wa,hw,h⟩=>⟨SizeOf.sizeOf a+1,a,wa,jbT _,hw,h⟩) (fun n=>rfl)
theorem ok230:FOk Tryz.prog T 230 (cpG T [.i .i64,.i .i64,.i .i64,.s,.i .i64,.i .i64,.i .i64,.s,.l 53,.l 9,.l 131]):=by
 refine fok (env:=envL [(257,(cpG T cV))]) (N:=8) tabT (aa ok257 ae) mixed Tryz.func230 rfl Tryz.call230 Tryz.ntmps230 ?_
 rintro args ⟨a,wa,hw,rfl⟩ hwf
 refine ⟨by simp,?_⟩
 clear hwf
 rw [Tryz.results230]
 repeat' first
  | (refine And.intro ?_ ?_)
  | (intro h;simp only [reduceCtorEq] at h;done)
  | (intro h;rw [h])
  | (intro h)
 all_goals first
  | (show ac _=true;kernel_rfl)|(show aj _ _=true;kernel_rfl)|exact True.intro|exact Or.inr rfl|exact Or.inl rfl
  | exact ⟨_,wa.sub 4 7 (by decide),tp 4 7 wa (by decide) hw,rfl⟩
  | exact ⟨_,aH hw 8,rfl⟩
  | exact ⟨_,aH hw 9,rfl⟩
  | exact ⟨_,aH hw 10,rfl⟩
  | (have q:=aH hw 8;show 0+(a.getD 8 default).rows.length≤maxLen;simp only [maxLen];omega)
  | (have q:=aH hw 9;show 0+(a.getD 9 default).rows.length≤maxLen;simp only [maxLen];omega)
  | (have q:=aH hw 10;show 0+(a.getD 10 default).rows.length≤maxLen;simp only [maxLen];omega)
  | (have q:=aH hw 8;show (0+(a.getD 8 default).rows.length) * 112≤140737488355328;omega)
  | (have q:=aH hw 9;show (0+(a.getD 9 default).rows.length) * 16≤140737488355328;omega)
  | (have q:=aH hw 10;show (0+(a.getD 10 default).rows.length) * 48≤140737488355328;omega)
  | rfl
  | skip
theorem ok206:FOk Tryz.prog T 206 (cpS 96):=by
 refine fok (env:=envL [(230,(cpG T [.i .i64,.i .i64,.i .i64,.s,.i .i64,.i .i64,.i .i64,.s,.l 53,.l 9,.l 131]))]) (N:=21) tabT (aa ok230 ae) mixed Tryz.func206 rfl Tryz.call206 Tryz.ntmps206 ?_
 rintro args ⟨a,hw,rfl⟩ hwf
 have wa:WfD T (.l 96) (.l a):=arg0 hwf (jbb _)
 clear hwf
 have la:a.length≤maxLen:=wa.len
 refine ⟨by simp,?_⟩
 rw [Tryz.results206]
 repeat' first
  | (refine And.intro ?_ ?_)
  | (intro h;simp only [reduceCtorEq] at h;done)
  | (intro h;rw [h])
  | (intro h)
 all_goals first
  | (show ac _=true;kernel_rfl)|(show aj _ _=true;kernel_rfl)|exact True.intro|exact Or.inr rfl|exact Or.inl rfl
  | skip
 refine ar (Q:=_) [0,3,4] [] (fun n s=>∃ i:Int,s=([argS 96 a,.val false [.sl true 96 (a.take i.toNat)],.val false [.i .i64 i]],[])∧0≤i∧i≤a.length∧n=a.length - i.toNat) ?_ ?_
 · exact ⟨rfl,a.length - 0,0,rfl,by omega,by omega,rfl⟩
 rintro n s ⟨i,rfl,h1,h2,h3⟩
 repeat' first
  | (refine And.intro ?_ ?_)
  | (intro h;simp only [reduceCtorEq] at h;done)
  | (intro h;rw [h])
  | (intro h)
 all_goals first
  | (show ac _=true;kernel_rfl)|(show aj _ _=true;kernel_rfl)|exact True.intro|exact Or.inr rfl|exact Or.inl rfl
  | omega
  | exact jaT ‹_›
  | exact resSl (kG h1 h2 ‹_›)
  | (have hi:i < (a.length:Int):=jaT ‹decide (i < (a.length:Int))=true›
     have wr:WfRow T [.i .i64,.i .i64,.i .i64,.s,.i .i64,.i .i64,.i .i64,.s,.l 53,.l 9,.l 131] (a.getD i.toNat []):=wa.row rfl (by omega)
     have hwr:=iR (a:=a) (k:=i.toNat) (by omega)
     first
      | exact ⟨_,wr,by omega,rfl⟩
      | exact ⟨_,wr,jbR (b8 (by omega)) (jcL hs),by omega,rfl⟩
      | exact ⟨_,wr.sub 4 7 (by decide),ja0 (qn (by rw [wr.1];decide)) (by omega),rfl⟩
      | exact ⟨_,ja0 (bR (a.getD i.toNat []) 8) (by omega),rfl⟩
      | exact ⟨_,ja0 (bR (a.getD i.toNat []) 9) (by omega),rfl⟩
      | exact ⟨_,ja0 (bR (a.getD i.toNat []) 10) (by omega),rfl⟩
      | (rw [take_len h1 h2];show i.toNat+1≤maxLen;simp only [maxLen];omega)
      | (rw [take_len h1 h2];show (i.toNat+1) * 152≤_;omega)
      | (refine ⟨a.length - (i+1).toNat,by omega,i+1,?_,by omega,by omega,rfl⟩
         exact wG (fun r z=>(([argS 96 a,.val false [.sl true 96 r],.val false [.i .i64 z]],[]):Snap)) (kF h1 hi (aC wr)) (aA h1 hi la)))
  | exact rfl
end Go.Proofs.YtkpnfbdoaljkpaaGreatDoor.Ab
