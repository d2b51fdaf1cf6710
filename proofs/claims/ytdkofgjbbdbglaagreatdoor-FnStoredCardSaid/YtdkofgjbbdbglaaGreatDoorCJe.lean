/- A part. -/
import Derived.Test.YtdkofgjbbdbglaaGreatDoorCJd
import Derived.Test.YtdkofgjbbdbglaaGreatDoorCPa
namespace Go.Proofs.YtdkofgjbbdbglaaGreatDoor.Ab
open Go.RowKit
set_option linter.all false
structure CLs where
 id:Int
 ve:Int
 k:Int
 nm:ByteArray
 cd:ByteArray
 n:Int
instance:Inhabited CLs:=⟨⟨0,0,0,ByteArray.empty,ByteArray.empty,0⟩⟩
def CLs.ok (x:CLs):Prop:=inK .i64 x.ve∧inK .i64 x.k∧x.nm.size≤8∧x.cd.size≤700∧inK .i64 x.n
structure EDs where
 k:Int
 at_:Int
 c:CLs
instance:Inhabited EDs:=⟨⟨0,0,default⟩⟩
def EDs.ok (x:EDs):Prop:=inK .i64 x.k∧inK .i64 x.at_∧inK .i64 x.c.id∧x.c.ok
def RdD (r:List D):Prop:=∃ (k n t:Int) (s:ByteArray) (v:Int),r=[.i k,.i n,.i t,.s s,.i 1,.i v,.i 0,.s ⟨#[]⟩,.l [],.l [],.l []]∧inK .i64 k∧inK .i64 n∧inK .i64 t∧s.size≤8∧inK .i64 v
def IntD (r:List D):Prop:=∃ n:Int,r=[.i n]∧inK .i64 n
structure OLs where
 a0:Int
 a1:Int
 a2:Int
 sn:List (List D)
 e:EDs
 fr:ByteArray
 tt:ByteArray
 ce:Int
 ve:Int
 rd:List (List D)
instance:Inhabited OLs:=⟨⟨0,0,0,[],default,ByteArray.empty,ByteArray.empty,0,0,[]⟩⟩
abbrev OLs.row (x:OLs):List D:=[.i x.a0,.i x.a1,.i x.a2,.l x.sn,.i x.e.k,.i x.e.at_,.i x.e.c.id,.i x.e.c.ve,.i x.e.c.k,.s x.e.c.nm,.s x.e.c.cd,.i x.e.c.n,.s x.fr,.s x.tt,.i x.ce,.i x.ve,.l x.rd]
def OLs.ok (x:OLs):Prop:=inK .i64 x.a0∧inK .i64 x.a1∧inK .i64 x.a2∧(x.sn.length≤8∧∀ r ∈ x.sn,IntD r)∧x.e.ok∧x.fr.size≤8∧x.tt.size≤8∧inK .i64 x.ce∧inK .i64 x.ve∧(x.rd.length≤8∧∀ r ∈ x.rd,RdD r)
def OpD (r:List D):Prop:=∃ x:OLs,r=x.row∧x.ok
theorem le120 {s:ByteArray} (h:decide ((s.size:Int) > 120)=false):s.size≤120:=by have:=jdh h;omega
theorem wlen {s:ByteArray} (h:s.size≤5):0≤(((ac (ah s)).length:Nat):Int)∧(((ac (ah s)).length:Nat):Int)≤6:=by
 unfold ac
 rw [jdi]
 have:=dQ s
 omega
theorem lX {r:List (List D)} (h:TR 11 r):(bg (strsOf r) ⟨#[32]⟩).size≤r.length * 12:=by
 have:=df (sep:=⟨#[32]⟩) h.strs
 simp only [strsOf,jdi] at this
 exact this
theorem sj {n:Int} (h:0≤n∧n < 256):inR n (-1000000000) 1000000000=true:=by
 unfold inR
 rw [jdj,decide_eq_true_eq,decide_eq_true_eq]
 omega
theorem id5 {rows:List (List D)} {i h:Int}:1≤IntKind.i64.wrap (1+fh rows i h 5)∧IntKind.i64.wrap (1+fh rows i h 5) < 6:=by
 have:=aP (rows:=rows) (i:=i) (h:=h) (n:=5) ⟨by decide,by decide⟩
 rw [aF (by omega) (by omega)]
 omega
theorem jcl {x n:Int} (h:x=n) (hn:1≤n∧n < 6):0≤x:=by omega
theorem jcn {x n:Int} (h:x=n) (hn:1≤n∧n < 6):x < ((6:Nat):Int):=by omega
theorem zH {x n:Int} (h:x=n) (hn:1≤n∧n < 6):x.toNat < 6:=by omega
theorem jcm {x n:Int} (h:x=n) (hn:1≤n∧n < 6):inK .i64 x:=au (by omega)
section
variable {P:Program} {T:Tab} {f:FuncId}
def AnyY (P:Program) (T:Tab) (f:FuncId) (pre:List SV→Prop) {α:Type} (R:α→SV) (post:List SV→α→Prop):Prop :=
 ∃ g:List SV→α,FOk P T f { pre:=pre,res:=fun a=>R (g a) }∧∀ a,pre a→post a (g a)
theorem AnyY.of {pre:List SV→Prop} {α:Type} {R:α→SV} {post:List SV→α→Prop} (x0:List SV→α) (h0:∀ a,pre a→post a (x0 a)) (h:∃ g:List SV→α,FOk P T f { pre:=pre,res:=fun a=>R (g a) }∧∀ a,pre a→(∀ b ∈ a,WfSV T b)→post a (g a)):AnyY P T f pre R post:=by
 classical
 obtain ⟨g,k,q⟩:=h
 refine ⟨fun a=>if ∀ b ∈ a,WfSV T b then g a else x0 a,⟨k.call,(fun hb=>by cases hb),fun _ w X args vals a1 a2 a3 hpre=>?_,(fun hb=>by cases hb)⟩,fun a ha=>?_⟩
 · have:=k.ok rfl w X args vals a1 a2 a3 hpre
   have e:(if ∀ b ∈ args,WfSV T b then g args else x0 args)=g args:=if_pos a2.wfs
   simp only
   rw [e]
   exact this
 · show post a (if ∀ b ∈ a,WfSV T b then g a else x0 a)
   split
   · rename_i h;exact q a ha h
   · exact h0 a ha
end
def zOL:OLs:=⟨0,0,0,[],⟨0,0,⟨0,0,0,⟨#[]⟩,⟨#[]⟩,0⟩⟩,⟨#[]⟩,⟨#[]⟩,0,0,[]⟩
theorem rp:zOL.ok:=⟨kk0,kk0,kk0,⟨jc7 _,all0⟩,⟨kk0,kk0,kk0,kk0,kk0,jc7 _,jc7 _,kk0⟩,jc7 _,jc7 _,kk0,kk0,jc7 _,all0⟩
theorem OpD.at {l:List (List D)} {k:Nat} (h:∀ y ∈ l,OpD y) (hk:k < l.length):OpD (l.getD k []):=ef h hk
theorem RdD.w {r:List D} (h:RdD r):wRow r≤8:=by
 obtain ⟨k,n,t,s,v,rfl,_,_,_,hs,_⟩:=h
 simp only [wRow,wD,aO,jdu]
 have e:ByteArray.size { data:=#[] }=0:=rfl
 omega
theorem xq:∀ {l:List (List D)},(∀ r ∈ l,RdD r)→aO l≤l.length * 8
 | [],_=>jdm _
 | r :: l,h=>by
   have h1:=(h r (jdB ..)).w
   have h2:=xq (l:=l) fun x hx=>h x (jdP _ hx)
   simp only [aO,jdl]
   omega
theorem rds_w {l:List (List D)} (h:l.length≤8∧∀ r ∈ l,RdD r):l.length+aO l≤1048576:=by
 have:=xq h.2
 omega
def len2 (m:List SV):Nat:=match m with
 | [.val _ [.sl _ _ a],.val _ [.sl _ _ b]]=>a.length+b.length
 | _=>0
theorem len3I {n:Nat} (h:n=3):(0:Int) < (n:Int):=by omega
theorem jcb {n:Nat} (h:n=3):Int.toNat 0 < n:=by show 0 < n;omega
theorem len3M {n:Nat} (h:n=3):n+1≤maxLen:=by simp only [maxLen];omega
theorem len3B {n:Nat} (h:n=3):(n+1) * 8≤140737488355328:=by omega
theorem len3L {l m:List (List D)} (h:l.length=3):(l++([]++m)).length≤3+m.length:=by simp only [jdf,jc8];omega
theorem len3P {l:List (List D)} {k j:Nat} {ds:List D} (h:l.length=3):(aZ l k j ds).length≤8:=by rw [oI];omega
theorem zD {l:List (List D)} {k:Nat} {n:Int} (h:∀ r ∈ l,IntD r) (hk:k < l.length) (hn:inK .i64 n):∀ r ∈ aZ l k 0 [.i n],IntD r:=by
 obtain ⟨m,e,_⟩:=ef h hk
 unfold aZ
 refine uS h ?_
 rw [e]
 exact ⟨n,rfl,hn⟩
set_option maxRecDepth 100000
set_option maxHeartbeats 2000000
theorem any79:AnyD Tryz.prog T 79 5 (fun m=>m=[]) (fun x:ByteArray=>.val false [.s x]) (fun (m:List SV) (x:ByteArray)=>x.size≤120):=by
 obtain ⟨g109,k109,q109⟩:=any109
 obtain ⟨g108d2,k108d2,q108d2⟩:=any108d2
 refine AnyD.of (fun _=>⟨#[]⟩) (fun _ _=>jc7 _) (dM (α:=ByteArray × Int × Int) (fun _ z=>(fun x:ByteArray=>.val false [.s x]) z.1) (fun a z=>curU 5 a z.2.1 z.2.2) (post:=fun a z=>bo (rowsOf a) z.2.1∧(fun (m:List SV) (x:ByteArray)=>x.size≤120) a.tail z.1) (env:=envL [(29,(bM 5)),(48,(eI 5 9)),(35,cu),(108,spD 5 (fun m=>∃ l:List (List D),(TR 8 l∧1≤l.length∧l.length≤8)∧m=[argS 9 l,.val false [.i .i64 2]]) (fun x:EL=>.val true [.i .i64 x.k,.i .i64 x.n,.s x.t,.sl false 144 x.l]) g108d2),(109, { pre:=preE [.i .i64,.i .i64,.s,.l 144] 5,res:=fun a=>(fun x:ByteArray=>.val false [.s x]) (g109 a) })]) (N:=64) tabT (aa ok29 (aa ok48 (aa ok35 (aa k108d2 (aa k109 ae))))) mixed Tryz.func79 rfl Tryz.call79 Tryz.ntmps79 ?_)
 rintro cs args ⟨rows,i,h0,more,ok,hp,he⟩ hwf
 obtain ⟨rfl,rfl⟩:cs=curC 5 rows i h0∧args=more:=by simpa only [jdw,SV.tup.injEq,jdA,true_and,and_true] using he
 obtain rfl:=hp
 refine ⟨by simp,?_⟩
 clear he hwf
 rw [Tryz.results79]
 repeat' first
  | refine And.intro ?_ ?_
  | (intro h;simp only [reduceCtorEq] at h;done)
  | (intro h;rw [h])
  | intro h
 all_goals first
  | exact Or.inr rfl
  | (show List.length _=_;rfl)
  | refine ⟨_,_,_,_,?_,⟨by decide,by decide⟩,rfl⟩
  | refine ⟨_,_,_,_,?_,⟨_,⟨((((TR.nil.add (by decide)).add (by decide)).add (by decide)).add (by decide)).add (by decide),by decide,by decide⟩,rfl⟩,rfl⟩
  | exact ⟨_,rfl⟩
  | exact ⟨_,(q108d2 _ _ _ _ (by repeat (first|exact ok|exact ok1|exact ok2|refine am ?_|refine (q108d2 _ _ _ _ ?_ ⟨_,⟨((((TR.nil.add (by decide)).add (by decide)).add (by decide)).add (by decide)).add (by decide),by decide,by decide⟩,rfl⟩).1)) ⟨_,⟨((((TR.nil.add (by decide)).add (by decide)).add (by decide)).add (by decide)).add (by decide),by decide,by decide⟩,rfl⟩).2,rfl⟩
  | ((with_reducible apply szT)
     · repeat (first|(with_reducible apply cat2)|exact af (P:=fun t=>t.size≤24) (jc7 _) (by intro r hr;simp only [az,jdf,jdc,jde,jda,or_false] at hr;rcases hr with rfl|rfl|rfl|rfl|rfl <;> decide) _|exact af (P:=fun t=>t.size≤32) (jc7 _) (by intro r hr;simp only [az,jdf,jdc,jde,jda,or_false] at hr;rcases hr with rfl|rfl|rfl|rfl|rfl|rfl|rfl|rfl|rfl <;> decide) _|exact ll (au (aq ⟨by decide,by decide⟩))|exact q109 _|exact jdm _)
     · repeat (first|(with_reducible apply cat2)|exact af (P:=fun t=>t.size≤24) (jc7 _) (by intro r hr;simp only [az,jdf,jdc,jde,jda,or_false] at hr;rcases hr with rfl|rfl|rfl|rfl|rfl <;> decide) _|exact af (P:=fun t=>t.size≤32) (jc7 _) (by intro r hr;simp only [az,jdf,jdc,jde,jda,or_false] at hr;rcases hr with rfl|rfl|rfl|rfl|rfl|rfl|rfl|rfl|rfl <;> decide) _|exact ll (au (aq ⟨by decide,by decide⟩))|exact q109 _|exact jdm _)
     · (try simp only [jp,jdE,jdl,jdu,maxLen,Nat.reduceAdd]);omega)
  | (refine ⟨(_,_,_),⟨(by repeat (first|exact ok|exact ok1|exact ok2|refine am ?_|refine (q108d2 _ _ _ _ ?_ ⟨_,⟨((((TR.nil.add (by decide)).add (by decide)).add (by decide)).add (by decide)).add (by decide),by decide,by decide⟩,rfl⟩).1)),?_⟩,rfl,rfl,True.intro⟩
     first
      | (exact le120 (by with_reducible assumption))
      | (apply szE
         · repeat (first|(with_reducible apply cat2)|exact af (P:=fun t=>t.size≤24) (jc7 _) (by intro r hr;simp only [az,jdf,jdc,jde,jda,or_false] at hr;rcases hr with rfl|rfl|rfl|rfl|rfl <;> decide) _|exact af (P:=fun t=>t.size≤32) (jc7 _) (by intro r hr;simp only [az,jdf,jdc,jde,jda,or_false] at hr;rcases hr with rfl|rfl|rfl|rfl|rfl|rfl|rfl|rfl|rfl <;> decide) _|exact ll (au (aq ⟨by decide,by decide⟩))|exact q109 _|exact jdm _)
         · (try simp only [jp,jdE,jdl,jdu,Nat.reduceAdd]);omega))
 all_goals repeat (first|exact ok|exact ok1|exact ok2|refine am ?_|refine (q108d2 _ _ _ _ ?_ ⟨_,⟨((((TR.nil.add (by decide)).add (by decide)).add (by decide)).add (by decide)).add (by decide),by decide,by decide⟩,rfl⟩).1)
theorem any107:AnyD Tryz.prog T 107 5 (fun m=>m=[]) (fun x:ByteArray=>.val false [.s x]) (fun (m:List SV) (x:ByteArray)=>x.size≤700):=by
 obtain ⟨g148,k148,q148⟩:=any148
 refine AnyD.of (fun _=>⟨#[]⟩) (fun _ _=>jc7 _) (dM (α:=ByteArray × Int × Int) (fun _ z=>(fun x:ByteArray=>.val false [.s x]) z.1) (fun a z=>curU 5 a z.2.1 z.2.2) (post:=fun a z=>bo (rowsOf a) z.2.1∧(fun (m:List SV) (x:ByteArray)=>x.size≤700) a.tail z.1) (env:=envL [(48,(eI 5 9)),(29,(bM 5)),(63,(fW true)),(35,cu),(62,spJoin),(25,(kW 5)),(148,spD 5 (fun m=>∃ (s:ByteArray) (l:List (List D)),(s.size≤500000∧bT (l.length:Int)∧∀ k,(((l.getD k []).getD 0 default).str).size≤20)∧m=[.val false [.s s],argS 9 l]) (fun x:ByteArray=>.val false [.s x]) g148)]) (N:=46) tabT (aa ok48 (aa ok29 (aa ok63 (aa ok35 (aa ok62 (aa ok25 (aa k148 ae))))))) mixed Tryz.func107 rfl Tryz.call107 Tryz.ntmps107 ?_)
 rintro cs args ⟨rows,i,h0,more,ok,hp,he⟩ hwf
 obtain ⟨rfl,rfl⟩:cs=curC 5 rows i h0∧args=more:=by simpa only [jdw,SV.tup.injEq,jdA,true_and,and_true] using he
 obtain rfl:=hp
 refine ⟨by simp,?_⟩
 clear he hwf
 rw [Tryz.results107]
 repeat' first
  | refine And.intro ?_ ?_
  | (intro h;simp only [reduceCtorEq] at h;done)
  | (intro h;rw [h])
  | intro h
 all_goals first
  | (show List.length _=_;rfl)
  | refine ⟨_,_,_,_,?_,⟨by decide,by decide⟩,rfl⟩
  | exact ⟨_,jdd (af (P:=fun t=>t.size≤5) (jc7 _) (by intro r hr;simp only [az,jdf,jdc,jde,jda,or_false] at hr;rcases hr with rfl|rfl|rfl|rfl|rfl|rfl <;> decide) _) (by decide),rfl⟩
  | skip
 all_goals try ((with_reducible show bo _ _);repeat (first|exact ok|exact ok1|exact ok2|refine am ?_|refine (q148 _ _ _ _ ?_ ⟨_,_,⟨by omega,⟨by decide,by decide⟩,fun k=>af (P:=fun t=>t.size≤20) (jc7 _) (by intro r hr;simp only [az,jdf,jdc,jde,jda,or_false] at hr;rcases hr with rfl|rfl|rfl|rfl|rfl <;> decide) _⟩,rfl⟩).1))
 refine aj (Q:=_) [0,3,4,5,6] [46] (fun q st=>∃ (s:ByteArray) (n m z I H:Int),st=([.ptr 46 0 0,.val false [.s s],.val false [.i .i64 n],.val false [.i .i64 m],.val false [.i .i64 z]],[(0,[.val false [.sl false 5 rows],.val false [.i .i64 I],.val false [.i .i64 H]])])∧(0≤n∧n≤3)∧(0≤m∧m≤6)∧s.size≤5+200 * z.toNat∧bo rows I∧0≤z∧z≤n∧q=n.toNat - z.toNat) ?_ ?_
 · exact ⟨rfl,_,_,_,_,0,_,_,rfl,⟨(aP (rows:=rows) (i:=_) (h:=_) (n:=4) ⟨by decide,by decide⟩).1,jeA (aP (rows:=rows) (i:=_) (h:=_) (n:=4) ⟨by decide,by decide⟩).2⟩,wlen (af (P:=fun t=>t.size≤5) (jc7 _) (by intro r hr;simp only [az,jdf,jdc,jde,jda,or_false] at hr;rcases hr with rfl|rfl|rfl|rfl|rfl|rfl <;> decide) _),(af (P:=fun t=>t.size≤5) (jc7 _) (by intro r hr;simp only [az,jdf,jdc,jde,jda,or_false] at hr;rcases hr with rfl|rfl|rfl|rfl|rfl|rfl <;> decide) _),(by repeat (first|exact ok|exact ok1|exact ok2|refine am ?_|refine (q148 _ _ _ _ ?_ ⟨_,_,⟨by omega,⟨by decide,by decide⟩,fun k=>af (P:=fun t=>t.size≤20) (jc7 _) (by intro r hr;simp only [az,jdf,jdc,jde,jda,or_false] at hr;rcases hr with rfl|rfl|rfl|rfl|rfl <;> decide) _⟩,rfl⟩).1)),by decide,(aP (rows:=rows) (i:=_) (h:=_) (n:=4) ⟨by decide,by decide⟩).1,rfl⟩
 rintro q st ⟨s,n,m,z,I,H,rfl,hn,hm,hs,ok1,h1,h2,h3⟩
 repeat' first
  | refine And.intro ?_ ?_
  | (intro h;simp only [reduceCtorEq] at h;done)
  | (intro h;rw [h])
  | intro h
 all_goals first
  | exact Or.inr rfl
  | (show List.length _=_;rfl)
  | exact ⟨_,_,_,_,(by repeat (first|exact ok|exact ok1|exact ok2|refine am ?_|refine (q148 _ _ _ _ ?_ ⟨_,_,⟨by omega,⟨by decide,by decide⟩,fun k=>af (P:=fun t=>t.size≤20) (jc7 _) (by intro r hr;simp only [az,jdf,jdc,jde,jda,or_false] at hr;rcases hr with rfl|rfl|rfl|rfl|rfl <;> decide) _⟩,rfl⟩).1)),⟨by decide,by decide⟩,rfl⟩
  | exact ⟨_,_,_,_,(by repeat (first|exact ok|exact ok1|exact ok2|refine am ?_|refine (q148 _ _ _ _ ?_ ⟨_,_,⟨by omega,⟨by decide,by decide⟩,fun k=>af (P:=fun t=>t.size≤20) (jc7 _) (by intro r hr;simp only [az,jdf,jdc,jde,jda,or_false] at hr;rcases hr with rfl|rfl|rfl|rfl|rfl <;> decide) _⟩,rfl⟩).1)),⟨_,_,⟨by omega,⟨by decide,by decide⟩,fun k=>af (P:=fun t=>t.size≤20) (jc7 _) (by intro r hr;simp only [az,jdf,jdc,jde,jda,or_false] at hr;rcases hr with rfl|rfl|rfl|rfl|rfl <;> decide) _⟩,rfl⟩,rfl⟩
  | (refine ⟨(_,_,_),⟨(by repeat (first|exact ok|exact ok1|exact ok2|refine am ?_|refine (q148 _ _ _ _ ?_ ⟨_,_,⟨by omega,⟨by decide,by decide⟩,fun k=>af (P:=fun t=>t.size≤20) (jc7 _) (by intro r hr;simp only [az,jdf,jdc,jde,jda,or_false] at hr;rcases hr with rfl|rfl|rfl|rfl|rfl <;> decide) _⟩,rfl⟩).1)),?_⟩,rfl,rfl,True.intro⟩
     first
      | (show s.size≤700;omega)
      | exact jdd (q148 _ _ _ _ (by repeat (first|exact ok|exact ok1|exact ok2|refine am ?_|refine (q148 _ _ _ _ ?_ ⟨_,_,⟨by omega,⟨by decide,by decide⟩,fun k=>af (P:=fun t=>t.size≤20) (jc7 _) (by intro r hr;simp only [az,jdf,jdc,jde,jda,or_false] at hr;rcases hr with rfl|rfl|rfl|rfl|rfl <;> decide) _⟩,rfl⟩).1)) ⟨_,_,⟨by omega,⟨by decide,by decide⟩,fun k=>af (P:=fun t=>t.size≤20) (jc7 _) (by intro r hr;simp only [az,jdf,jdc,jde,jda,or_false] at hr;rcases hr with rfl|rfl|rfl|rfl|rfl <;> decide) _⟩,rfl⟩).2 (show s.size+20≤700 by omega))
  | skip
 have hz:z < n:=jc6 ‹decide (z < n)=true›
 refine aj (Q:=_) [0,3,4,5,6,7,8] [46] (fun q st=>∃ (r:List (List D)) (k I2 H2:Int),st=([.ptr 46 0 0,.val false [.s s],.val false [.i .i64 n],.val false [.i .i64 m],.val false [.i .i64 z],.val false [.sl true 9 r],.val false [.i .i64 k]],[(0,[.val false [.sl false 5 rows],.val false [.i .i64 I2],.val false [.i .i64 H2]])])∧TR 11 r∧r.length=k.toNat∧bo rows I2∧0≤k∧k≤m∧q=m.toNat - k.toNat) ?_ ?_
 · exact ⟨rfl,_,_,0,_,_,rfl,TR.nil,rfl,ok1,by decide,hm.1,rfl⟩
 rintro q2 st2 ⟨r,k,I2,H2,rfl,hT,hrl,ok2,k1,k2,k3⟩
 repeat' first
  | refine And.intro ?_ ?_
  | (intro h;simp only [reduceCtorEq] at h;done)
  | (intro h;rw [h])
  | intro h
 all_goals first
  | (show aX _ _;rfl)
  | (show List.length _=_;rfl)
  | exact ⟨_,_,_,_,(by repeat (first|exact ok|exact ok1|exact ok2|refine am ?_|refine (q148 _ _ _ _ ?_ ⟨_,_,⟨by omega,⟨by decide,by decide⟩,fun k=>af (P:=fun t=>t.size≤20) (jc7 _) (by intro r hr;simp only [az,jdf,jdc,jde,jda,or_false] at hr;rcases hr with rfl|rfl|rfl|rfl|rfl <;> decide) _⟩,rfl⟩).1)),⟨by decide,by decide⟩,rfl⟩
  | exact ⟨_,rfl⟩
  | (show r.length+1≤maxLen;simp only [maxLen];omega)
  | (show (r.length+1) * 16≤140737488355328;omega)
  | (show s.size+2≤maxLen;simp only [maxLen];omega)
  | exact ⟨_,_,by omega,jdd (lX hT) (by omega),rfl⟩
  | (show (s++_).size+_≤maxLen;have:=lX hT;rw [jdr];show s.size+2+_≤maxLen;simp only [maxLen];omega)
  | (have hk:k < m:=jc6 ‹decide (k < m)=true›
     refine ⟨m.toNat - (k+1).toNat,by omega,_,k+1,_,_,congrArg (fun x=>(([.ptr 46 0 0,.val false [.s s],.val false [.i .i64 n],.val false [.i .i64 m],.val false [.i .i64 z],.val false [.sl true 9 _],.val false [.i .i64 x]],[(0,[.val false [.sl false 5 rows],.val false [.i .i64 _],.val false [.i .i64 _]])]):Snap)) (aF (by omega) (by omega)),hT.add (co (sj (aq ⟨by decide,by decide⟩))),by rw [jc8,hrl];show k.toNat+1=_;omega,(by repeat (first|exact ok|exact ok1|exact ok2|refine am ?_|refine (q148 _ _ _ _ ?_ ⟨_,_,⟨by omega,⟨by decide,by decide⟩,fun k=>af (P:=fun t=>t.size≤20) (jc7 _) (by intro r hr;simp only [az,jdf,jdc,jde,jda,or_false] at hr;rcases hr with rfl|rfl|rfl|rfl|rfl <;> decide) _⟩,rfl⟩).1)),by omega,by omega,rfl⟩)
  | (refine ⟨n.toNat - (z+1).toNat,by omega,_,n,m,z+1,_,_,congrArg (fun x=>(([.ptr 46 0 0,.val false [.s _],.val false [.i .i64 n],.val false [.i .i64 m],.val false [.i .i64 x]],[(0,[.val false [.sl false 5 rows],.val false [.i .i64 _],.val false [.i .i64 _]])]):Snap)) (aF (by omega) (by omega)),hn,hm,?_,ok2,by omega,by omega,rfl⟩
     have:=lX hT
     rw [jdr,jdr]
     show s.size+2+_≤_
     omega)
theorem any78:AnyD Tryz.prog T 78 5 (fun m=>∃ n:Int,m=[.val false [.i .i64 n]]) (fun x:CLs=>.val true [.i .i64 x.id,.i .i64 x.ve,.i .i64 x.k,.s x.nm,.s x.cd,.i .i64 x.n]) (fun (m:List SV) (x:CLs)=>x.id=nOfM m∧x.ok):=by
 obtain ⟨g27,k27,q27⟩:=any27
 obtain ⟨g79,k79,q79⟩:=any79
 obtain ⟨g107,k107,q107⟩:=any107
 refine AnyD.of (fun m=>⟨nOfM m,0,0,⟨#[]⟩,⟨#[]⟩,0⟩) (fun m _=>⟨rfl,kk0,kk0,jc7 _,jc7 _,kk0⟩) (dM (α:=CLs × Int × Int) (fun _ z=>(fun x:CLs=>.val true [.i .i64 x.id,.i .i64 x.ve,.i .i64 x.k,.s x.nm,.s x.cd,.i .i64 x.n]) z.1) (fun a z=>curU 5 a z.2.1 z.2.2) (post:=fun a z=>bo (rowsOf a) z.2.1∧(fun (m:List SV) (x:CLs)=>x.id=nOfM m∧x.ok) a.tail z.1) (env:=envL [(29,(bM 5)),(27,spD 5 (fun m=>∃ l:List (List D),bT (l.length:Int)∧m=[argS 3 l]) (fun x:Int=>.val false [.i .i64 x]) g27),(48,(eI 5 9)),(79,spD 5 (fun m=>m=[]) (fun x:ByteArray=>.val false [.s x]) g79),(107,spD 5 (fun m=>m=[]) (fun x:ByteArray=>.val false [.s x]) g107)]) (N:=42) tabT (aa ok29 (aa k27 (aa ok48 (aa k79 (aa k107 ae))))) mixed Tryz.func78 rfl Tryz.call78 Tryz.ntmps78 ?_)
 rintro cs args ⟨rows,i,h0,more,ok,hp,he⟩ hwf
 obtain ⟨rfl,rfl⟩:cs=curC 5 rows i h0∧args=more:=by simpa only [jdw,SV.tup.injEq,jdA,true_and,and_true] using he
 obtain ⟨n,rfl⟩:=hp
 refine ⟨by simp,?_⟩
 clear he hwf
 rw [Tryz.results78]
 repeat' first
  | refine And.intro ?_ ?_
  | (intro h;simp only [reduceCtorEq] at h;done)
  | (intro h;rw [h])
  | intro h
 all_goals first
  | exact Or.inr rfl
  | (show List.length _=_;rfl)
  | refine ⟨_,_,_,_,?_,⟨by decide,by decide⟩,rfl⟩
  | refine ⟨_,_,_,_,?_,⟨_,⟨by decide,by decide⟩,rfl⟩,rfl⟩
  | refine ⟨_,_,_,_,?_,rfl,rfl⟩
  | (refine ⟨(⟨_,_,_,_,_,_⟩,_,_),⟨?_,?_⟩,rfl,rfl,True.intro⟩;rotate_left;refine ⟨rfl,aV _ _,?_,?_,?_,?_⟩
     · exact ((q27 _ _ _ _ (by repeat (first|exact ok|exact ok1|exact ok2|refine am ?_|refine (q27 _ _ _ _ ?_ ⟨_,⟨by decide,by decide⟩,rfl⟩).1|refine (q79 _ _ _ _ ?_ rfl).1|refine (q107 _ _ _ _ ?_ rfl).1)) ⟨_,⟨by decide,by decide⟩,rfl⟩).2 (inK .i64) kk0 (by intro r hr;simp only [az,jdf,jdc,jde,jda,or_false] at hr;rcases hr with rfl|rfl|rfl|rfl|rfl|rfl|rfl|rfl <;> exact ⟨by decide,by decide⟩))
     · first|exact af (P:=fun t=>t.size≤8) (jc7 _) (by intro r hr;simp only [az,jdf,jdc,jde,jda,or_false] at hr;rcases hr with rfl|rfl|rfl|rfl|rfl <;> decide) _|exact jc7 _|decide
     · first|exact af (P:=fun t=>t.size≤700) (jc7 _) (by intro r hr;simp only [az,jdf,jdc,jde,jda,or_false] at hr;rcases hr with rfl|rfl|rfl <;> decide) _|exact jdd (q79 _ _ _ _ (by repeat (first|exact ok|exact ok1|exact ok2|refine am ?_|refine (q27 _ _ _ _ ?_ ⟨_,⟨by decide,by decide⟩,rfl⟩).1|refine (q79 _ _ _ _ ?_ rfl).1|refine (q107 _ _ _ _ ?_ rfl).1)) rfl).2 (by decide)|exact (q107 _ _ _ _ (by repeat (first|exact ok|exact ok1|exact ok2|refine am ?_|refine (q27 _ _ _ _ ?_ ⟨_,⟨by decide,by decide⟩,rfl⟩).1|refine (q79 _ _ _ _ ?_ rfl).1|refine (q107 _ _ _ _ ?_ rfl).1)) rfl).2|decide|exact jc7 _
     · first|exact kk0|exact au (aq ⟨by decide,by decide⟩))
 all_goals repeat (first|exact ok|exact ok1|exact ok2|refine am ?_|refine (q27 _ _ _ _ ?_ ⟨_,⟨by decide,by decide⟩,rfl⟩).1|refine (q79 _ _ _ _ ?_ rfl).1|refine (q107 _ _ _ _ ?_ rfl).1)
theorem any46:AnyD Tryz.prog T 46 5 (fun m=>m=[]) (fun x:EDs=>.val true [.i .i64 x.k,.i .i64 x.at_,.i .i64 x.c.id,.i .i64 x.c.ve,.i .i64 x.c.k,.s x.c.nm,.s x.c.cd,.i .i64 x.c.n]) (fun (m:List SV) (x:EDs)=>x.ok):=by
 obtain ⟨g27,k27,q27⟩:=any27
 obtain ⟨g78,k78,q78⟩:=any78
 obtain ⟨g79,k79,q79⟩:=any79
 refine AnyD.of (fun _=>⟨0,0,⟨0,0,0,⟨#[]⟩,⟨#[]⟩,0⟩⟩) (fun _ _=>⟨kk0,kk0,kk0,kk0,kk0,jc7 _,jc7 _,kk0⟩) (dM (α:=EDs × Int × Int) (fun _ z=>(fun x:EDs=>.val true [.i .i64 x.k,.i .i64 x.at_,.i .i64 x.c.id,.i .i64 x.c.ve,.i .i64 x.c.k,.s x.c.nm,.s x.c.cd,.i .i64 x.c.n]) z.1) (fun a z=>curU 5 a z.2.1 z.2.2) (post:=fun a z=>bo (rowsOf a) z.2.1∧(fun (m:List SV) (x:EDs)=>x.ok) a.tail z.1) (env:=envL [(27,spD 5 (fun m=>∃ l:List (List D),bT (l.length:Int)∧m=[argS 3 l]) (fun x:Int=>.val false [.i .i64 x]) g27),(29,(bM 5)),(78,spD 5 (fun m=>∃ n:Int,m=[.val false [.i .i64 n]]) (fun x:CLs=>.val true [.i .i64 x.id,.i .i64 x.ve,.i .i64 x.k,.s x.nm,.s x.cd,.i .i64 x.n]) g78),(79,spD 5 (fun m=>m=[]) (fun x:ByteArray=>.val false [.s x]) g79)]) (N:=35) tabT (aa k27 (aa ok29 (aa k78 (aa k79 ae)))) mixed Tryz.func46 rfl Tryz.call46 Tryz.ntmps46 ?_)
 rintro cs args ⟨rows,i,h0,more,ok,hp,he⟩ hwf
 obtain ⟨rfl,rfl⟩:cs=curC 5 rows i h0∧args=more:=by simpa only [jdw,SV.tup.injEq,jdA,true_and,and_true] using he
 obtain rfl:=hp
 refine ⟨by simp,?_⟩
 clear he hwf
 rw [Tryz.results46]
 repeat' first
  | refine And.intro ?_ ?_
  | (intro h;simp only [reduceCtorEq] at h;done)
  | (intro h;rw [h])
  | intro h
 all_goals first
  | exact Or.inr rfl
  | (show List.length _=_;rfl)
  | refine ⟨_,_,_,_,?_,⟨by decide,by decide⟩,rfl⟩
  | refine ⟨_,_,_,_,?_,⟨_,⟨by decide,by decide⟩,rfl⟩,rfl⟩
  | refine ⟨_,_,_,_,?_,⟨_,rfl⟩,rfl⟩
  | refine ⟨_,_,_,_,?_,rfl,rfl⟩
  | exact jcl (q78 _ _ _ _ (by repeat (first|exact ok|exact ok1|exact ok2|refine am ?_|refine (q27 _ _ _ _ ?_ ⟨_,⟨by decide,by decide⟩,rfl⟩).1|refine (q78 _ _ _ _ ?_ ⟨_,rfl⟩).1|refine (q79 _ _ _ _ ?_ rfl).1)) ⟨_,rfl⟩).2.1 id5
  | exact jcn (q78 _ _ _ _ (by repeat (first|exact ok|exact ok1|exact ok2|refine am ?_|refine (q27 _ _ _ _ ?_ ⟨_,⟨by decide,by decide⟩,rfl⟩).1|refine (q78 _ _ _ _ ?_ ⟨_,rfl⟩).1|refine (q79 _ _ _ _ ?_ rfl).1)) ⟨_,rfl⟩).2.1 id5
  | exact zH (q78 _ _ _ _ (by repeat (first|exact ok|exact ok1|exact ok2|refine am ?_|refine (q27 _ _ _ _ ?_ ⟨_,⟨by decide,by decide⟩,rfl⟩).1|refine (q78 _ _ _ _ ?_ ⟨_,rfl⟩).1|refine (q79 _ _ _ _ ?_ rfl).1)) ⟨_,rfl⟩).2.1 id5
  | (refine ⟨(⟨_,_,⟨_,_,_,D.str _,_,_⟩⟩,_,_),⟨?_,?_⟩,rfl,rfl,True.intro⟩;rotate_left;refine ⟨?_,?_,?_,?_,?_,?_,?_,?_⟩
     · exact ((q27 _ _ _ _ (by repeat (first|exact ok|exact ok1|exact ok2|refine am ?_|refine (q27 _ _ _ _ ?_ ⟨_,⟨by decide,by decide⟩,rfl⟩).1|refine (q78 _ _ _ _ ?_ ⟨_,rfl⟩).1|refine (q79 _ _ _ _ ?_ rfl).1)) ⟨_,⟨by decide,by decide⟩,rfl⟩).2 (inK .i64) kk0 (by intro r hr;simp only [az,jdf,jdc,jde,jda,or_false] at hr;rcases hr with rfl|rfl|rfl|rfl|rfl|rfl|rfl|rfl|rfl|rfl <;> exact ⟨by decide,by decide⟩))
     · exact au (aq ⟨by decide,by decide⟩)
     · exact jcm (q78 _ _ _ _ (by repeat (first|exact ok|exact ok1|exact ok2|refine am ?_|refine (q27 _ _ _ _ ?_ ⟨_,⟨by decide,by decide⟩,rfl⟩).1|refine (q78 _ _ _ _ ?_ ⟨_,rfl⟩).1|refine (q79 _ _ _ _ ?_ rfl).1)) ⟨_,rfl⟩).2.1 id5
     · exact (q78 _ _ _ _ (by repeat (first|exact ok|exact ok1|exact ok2|refine am ?_|refine (q27 _ _ _ _ ?_ ⟨_,⟨by decide,by decide⟩,rfl⟩).1|refine (q78 _ _ _ _ ?_ ⟨_,rfl⟩).1|refine (q79 _ _ _ _ ?_ rfl).1)) ⟨_,rfl⟩).2.2.1
     · first|exact kk2|exact (q78 _ _ _ _ (by repeat (first|exact ok|exact ok1|exact ok2|refine am ?_|refine (q27 _ _ _ _ ?_ ⟨_,⟨by decide,by decide⟩,rfl⟩).1|refine (q78 _ _ _ _ ?_ ⟨_,rfl⟩).1|refine (q79 _ _ _ _ ?_ rfl).1)) ⟨_,rfl⟩).2.2.2.1
     · exact af (P:=fun t=>t.size≤8) (jc7 _) (by intro r hr;simp only [az,jdf,jdc,jde,jda,or_false] at hr;rcases hr with rfl|rfl|rfl|rfl|rfl|rfl <;> decide) _
     · first|exact jdd (q79 _ _ _ _ (by repeat (first|exact ok|exact ok1|exact ok2|refine am ?_|refine (q27 _ _ _ _ ?_ ⟨_,⟨by decide,by decide⟩,rfl⟩).1|refine (q78 _ _ _ _ ?_ ⟨_,rfl⟩).1|refine (q79 _ _ _ _ ?_ rfl).1)) rfl).2 (by decide)|exact (q78 _ _ _ _ (by repeat (first|exact ok|exact ok1|exact ok2|refine am ?_|refine (q27 _ _ _ _ ?_ ⟨_,⟨by decide,by decide⟩,rfl⟩).1|refine (q78 _ _ _ _ ?_ ⟨_,rfl⟩).1|refine (q79 _ _ _ _ ?_ rfl).1)) ⟨_,rfl⟩).2.2.2.2.2.1
     · exact (q78 _ _ _ _ (by repeat (first|exact ok|exact ok1|exact ok2|refine am ?_|refine (q27 _ _ _ _ ?_ ⟨_,⟨by decide,by decide⟩,rfl⟩).1|refine (q78 _ _ _ _ ?_ ⟨_,rfl⟩).1|refine (q79 _ _ _ _ ?_ rfl).1)) ⟨_,rfl⟩).2.2.2.2.2.2)
 all_goals repeat (first|exact ok|exact ok1|exact ok2|refine am ?_|refine (q27 _ _ _ _ ?_ ⟨_,⟨by decide,by decide⟩,rfl⟩).1|refine (q78 _ _ _ _ ?_ ⟨_,rfl⟩).1|refine (q79 _ _ _ _ ?_ rfl).1)
def cpG (T:Tab) (cts:List CT):FSpec where
 pre args:=∃ a:List D,WfRow T cts a∧wRow a≤1048576∧args=[argG cts a]
 res args:=match args with
  | [a]=>a
  | _=>.none
def cpGn (T:Tab) (cts:List CT) (n:Nat):FSpec where
 pre args:=∃ a:List D,WfRow T cts a∧SizeOf.sizeOf a < n∧wRow a≤1048576∧args=[argG cts a]
 res:=(cpG T cts).res
def cpS (e:TypeId):FSpec where
 pre args:=∃ a:List (List D),a.length+aO a≤1048576∧args=[argS e a]
 res args:=match args with
  | [.val _ [.sl _ _ a]]=>.val false [.sl true e a]
  | _=>.none
theorem lF {a:List (List D)} {i:Int} (h0:0≤i) (hi:i < a.length) {r:List D} (hr:r=a.getD i.toNat []):a.take i.toNat++[r]=a.take (i+1).toNat:=by
 have e:(i+1).toNat=i.toNat+1:=by omega
 rw [e,jd5,fH h0 hi,hr]
 rfl
theorem lG {a:List (List D)} {i:Int} (h0:0≤i) (hi:i≤a.length) (h:decide (i < (a.length:Int))=false):a.take i.toNat=a:=by
 have:¬ i < (a.length:Int):=jdh h
 rw [show i.toNat=a.length by omega,jdZ]
theorem take_len {a:List (List D)} {i:Int} (h0:0≤i) (hi:i≤a.length):(a.take i.toNat).length=i.toNat:=by
 rw [jdp,jel (by omega)]
theorem cG {a:List D} (hw:wRow a≤1048576) (j:Nat):(a.getD j default).rows.length+aO (a.getD j default).rows≤1048576:=jdd (cv a j) hw
theorem u5 {T:Tab} {cts:List CT} {a:List D} (k n:Nat) (wa:WfRow T cts a) (hk:k+n≤cts.length) (hw:wRow a≤1048576):wRow (sub a k n)≤1048576:=jdd (yr (by rw [wa.1];exact hk)) hw
theorem yQ (f:List (List D)→Int→Snap) {r r' : List (List D)} {a b:Int} (h:r=r') (h2:a=b):f r a=f r' b:=by rw [h,h2]
theorem resSl {e:TypeId} {a b:List (List D)} (h:a=b):[CV.sl true e a]=[CV.sl true e b]:=by rw [h]
theorem ok221:FOk Tryz.prog T 221 (cpG T [.l 3,.l 150]):=by
 refine fok (env:=envL []) (N:=12) tabT ae mixed Tryz.func221 rfl Tryz.call221 Tryz.ntmps221 ?_
 rintro args ⟨a,wa,hw,rfl⟩ hwf
 refine ⟨by simp,?_⟩
 clear hwf
 rw [Tryz.results221]
 repeat' first
  | refine And.intro ?_ ?_
  | (intro h;simp only [reduceCtorEq] at h;done)
  | (intro h;rw [h])
  | intro h
 all_goals first
  | (show av _=true;kernel_rfl)
  | (show ba _ _=true;kernel_rfl)
  | exact True.intro
  | exact Or.inr rfl
  | (have q:=cG hw 0;show 0+(a.getD 0 default).rows.length≤maxLen;simp only [maxLen];omega)
  | (have q:=cG hw 1;show 0+(a.getD 1 default).rows.length≤maxLen;simp only [maxLen];omega)
  | (have q:=cG hw 0;show (0+(a.getD 0 default).rows.length) * 8≤140737488355328;omega)
  | (have q:=cG hw 1;show (0+(a.getD 1 default).rows.length) * 16≤140737488355328;omega)
  | rfl
theorem yJ (n:Nat) (hn:FOk Tryz.prog T 191 (cpGn T cV n)):FOk Tryz.prog T 191 (cpGn T cV (n+1)):=by
 refine fok (env:=envL [(191,(cpGn T cV n)),(221,(cpG T [.l 3,.l 150]))]) (N:=56) tabT (aa hn (aa ok221 ae)) mixed Tryz.func191 rfl Tryz.call191 Tryz.ntmps191 ?_
 rintro args ⟨a,wa,hs,hw,rfl⟩ hwf
 clear hwf
 refine ⟨by simp,?_⟩
 rw [Tryz.results191]
 repeat' first
  | refine And.intro ?_ ?_
  | (intro h;simp only [reduceCtorEq] at h;done)
  | (intro h;rw [h])
  | intro h
 all_goals first
  | (show av _=true;kernel_rfl)
  | (show ba _ _=true;kernel_rfl)
  | (have q:=cG hw 5;show 0+(a.getD 5 default).rows.length≤maxLen;simp only [maxLen];omega)
  | (have q:=cG hw 5;show (0+(a.getD 5 default).rows.length) * 16≤140737488355328;omega)
  | skip
 have wR0:WfD T (.l 74) (.l (a.getD 4 default).rows):=wa.rows (j:=4) rfl
 have lR0:(a.getD 4 default).rows.length≤maxLen:=wR0.len
 have hR0:=cG hw 4
 have zR0:SizeOf.sizeOf (a.getD 4 default).rows < SizeOf.sizeOf a:=eK (by rw [wa.1];decide)
 refine aj (Q:=_) [1,2,3,4] [1,2,3] (fun n s=>∃ i:Int,s=([.ptr 1 1 0,.ptr 2 1 0,.ptr 3 1 0,.val false [.i .i64 i]],[(1,(rowC cV a).map fun c=>.val false [c]),(1,[.val false [.i .i64 0],.val false [.i .i64 0],.val false [.i .i64 0],.val false [.s ByteArray.empty],.val false [.sl true 74 []],.val false [.sl true 9 []],.val false [.sl true 124 []]]),(1,[.val false [.i .i64 (a.getD 0 default).int],.val false [.i .i64 (a.getD 1 default).int],.val false [.i .i64 (a.getD 2 default).int],.val false [.s (a.getD 3 default).str],.val false [.sl true 74 ((a.getD 4 default).rows.take i.toNat)],.val false [.sl true 9 (a.getD 5 default).rows],.val false [.sl true 124 []]])])∧0≤i∧i≤(a.getD 4 default).rows.length∧n=(a.getD 4 default).rows.length - i.toNat) ?_ ?_
 · exact ⟨rfl,(a.getD 4 default).rows.length - 0,0,rfl,by omega,by omega,rfl⟩
 rintro n0 s ⟨i,rfl,h1,h2,h3⟩
 repeat' first
  | refine And.intro ?_ ?_
  | (intro h;simp only [reduceCtorEq] at h;done)
  | (intro h;rw [h])
  | intro h
 all_goals first
  | (show av _=true;kernel_rfl)
  | (show ba _ _=true;kernel_rfl)
  | omega
  | exact jc6 ‹_›
  | (have hi:i < ((a.getD 4 default).rows.length:Int):=jc6 ‹decide (i < ((a.getD 4 default).rows.length:Int))=true›
     have wr:WfRow T cV ((a.getD 4 default).rows.getD i.toNat []):=wR0.row rfl (by omega)
     have hwr:=hU (a:=(a.getD 4 default).rows) (k:=i.toNat) (by omega)
     first
      | exact ⟨_,wr,jd4 (Nat.lt_trans (jk (by omega)) zR0) (jeY hs),by omega,rfl⟩
      | (rw [take_len h1 h2];show i.toNat+1≤maxLen;simp only [maxLen];omega)
      | (rw [take_len h1 h2];show (i.toNat+1) * 112≤_;omega)
      | (refine ⟨(a.getD 4 default).rows.length - (i+1).toNat,by omega,i+1,?_,by omega,by omega,rfl⟩
         exact yQ (fun r z=>(([.ptr 1 1 0,.ptr 2 1 0,.ptr 3 1 0,.val false [.i .i64 z]],[(1,(rowC cV a).map fun c=>.val false [c]),(1,[.val false [.i .i64 0],.val false [.i .i64 0],.val false [.i .i64 0],.val false [.s ByteArray.empty],.val false [.sl true 74 []],.val false [.sl true 9 []],.val false [.sl true 124 []]]),(1,[.val false [.i .i64 (a.getD 0 default).int],.val false [.i .i64 (a.getD 1 default).int],.val false [.i .i64 (a.getD 2 default).int],.val false [.s (a.getD 3 default).str],.val false [.sl true 74 r],.val false [.sl true 9 (a.getD 5 default).rows],.val false [.sl true 124 []]])]):Snap)) (lF h1 hi (aw wr)) (aC h1 hi lR0)))
  | exact rfl
  | skip
 have hT0:(a.getD 4 default).rows.take i.toNat=(a.getD 4 default).rows:=lG h1 h2 ‹decide (i < ((a.getD 4 default).rows.length:Int))=false›
 rw [hT0]
 clear h1 h2 h3 hT0
 have wR1:WfD T (.l 124) (.l (a.getD 6 default).rows):=wa.rows (j:=6) rfl
 have lR1:(a.getD 6 default).rows.length≤maxLen:=wR1.len
 have hR1:=cG hw 6
 have zR1:SizeOf.sizeOf (a.getD 6 default).rows < SizeOf.sizeOf a:=eK (by rw [wa.1];decide)
 refine aj (Q:=_) [1,2,3,5] [1,2,3] (fun n s=>∃ i:Int,s=([.ptr 1 1 0,.ptr 2 1 0,.ptr 3 1 0,.val false [.i .i64 i]],[(1,(rowC cV a).map fun c=>.val false [c]),(1,[.val false [.i .i64 0],.val false [.i .i64 0],.val false [.i .i64 0],.val false [.s ByteArray.empty],.val false [.sl true 74 []],.val false [.sl true 9 []],.val false [.sl true 124 []]]),(1,[.val false [.i .i64 (a.getD 0 default).int],.val false [.i .i64 (a.getD 1 default).int],.val false [.i .i64 (a.getD 2 default).int],.val false [.s (a.getD 3 default).str],.val false [.sl true 74 (a.getD 4 default).rows],.val false [.sl true 9 (a.getD 5 default).rows],.val false [.sl true 124 ((a.getD 6 default).rows.take i.toNat)]])])∧0≤i∧i≤(a.getD 6 default).rows.length∧n=(a.getD 6 default).rows.length - i.toNat) ?_ ?_
 · exact ⟨rfl,(a.getD 6 default).rows.length - 0,0,rfl,by omega,by omega,rfl⟩
 rintro n1 s ⟨i,rfl,h1,h2,h3⟩
 repeat' first
  | refine And.intro ?_ ?_
  | (intro h;simp only [reduceCtorEq] at h;done)
  | (intro h;rw [h])
  | intro h
 all_goals first
  | (show av _=true;kernel_rfl)
  | (show ba _ _=true;kernel_rfl)
  | exact True.intro
  | exact Or.inr rfl
  | omega
  | exact jc6 ‹_›
  | (have hi:i < ((a.getD 6 default).rows.length:Int):=jc6 ‹decide (i < ((a.getD 6 default).rows.length:Int))=true›
     have wr:WfRow T [.l 3,.l 150] ((a.getD 6 default).rows.getD i.toNat []):=wR1.row rfl (by omega)
     have hwr:=hU (a:=(a.getD 6 default).rows) (k:=i.toNat) (by omega)
     first
      | exact ⟨_,wr,by omega,rfl⟩
      | (rw [take_len h1 h2];show i.toNat+1≤maxLen;simp only [maxLen];omega)
      | (rw [take_len h1 h2];show (i.toNat+1) * 48≤_;omega)
      | (refine ⟨(a.getD 6 default).rows.length - (i+1).toNat,by omega,i+1,?_,by omega,by omega,rfl⟩
         exact yQ (fun r z=>(([.ptr 1 1 0,.ptr 2 1 0,.ptr 3 1 0,.val false [.i .i64 z]],[(1,(rowC cV a).map fun c=>.val false [c]),(1,[.val false [.i .i64 0],.val false [.i .i64 0],.val false [.i .i64 0],.val false [.s ByteArray.empty],.val false [.sl true 74 []],.val false [.sl true 9 []],.val false [.sl true 124 []]]),(1,[.val false [.i .i64 (a.getD 0 default).int],.val false [.i .i64 (a.getD 1 default).int],.val false [.i .i64 (a.getD 2 default).int],.val false [.s (a.getD 3 default).str],.val false [.sl true 74 (a.getD 4 default).rows],.val false [.sl true 9 (a.getD 5 default).rows],.val false [.sl true 124 r]])]):Snap)) (lF h1 hi (aw wr)) (aC h1 hi lR1)))
  | exact rfl
  | skip
 have hT1:(a.getD 6 default).rows.take i.toNat=(a.getD 6 default).rows:=lG h1 h2 ‹decide (i < ((a.getD 6 default).rows.length:Int))=false›
 rw [hT1]
 rfl
theorem xY:FOk Tryz.prog T 191 (cpGn T cV 0):=by
 refine fok (env:=envL []) (N:=56) tabT ae mixed Tryz.func191 rfl Tryz.call191 Tryz.ntmps191 ?_
 rintro args ⟨a,wa,hs,hw,rfl⟩ _
 exact absurd hs (jdW _)
theorem jc1 (n:Nat):FOk Tryz.prog T 191 (cpGn T cV n):=by
 induction n with
 | zero=>exact xY
 | succ n ih=>exact yJ n ih
theorem ok191:FOk Tryz.prog T 191 (cpG T cV):=FOk.lift (s:=fun n=>(cpGn T cV n)) jc1 (fun args ⟨a,wa,hw,h⟩=>⟨SizeOf.sizeOf a+1,a,wa,jd6 _,hw,h⟩) (fun n=>rfl)
theorem ok147:FOk Tryz.prog T 147 (cpG T [.i .i64,.i .i64,.i .i64,.s,.i .i64,.i .i64,.i .i64,.s,.l 74,.l 9,.l 124]):=by
 refine fok (env:=envL [(191,(cpG T cV))]) (N:=8) tabT (aa ok191 ae) mixed Tryz.func147 rfl Tryz.call147 Tryz.ntmps147 ?_
 rintro args ⟨a,wa,hw,rfl⟩ hwf
 refine ⟨by simp,?_⟩
 clear hwf
 rw [Tryz.results147]
 repeat' first
  | refine And.intro ?_ ?_
  | (intro h;simp only [reduceCtorEq] at h;done)
  | (intro h;rw [h])
  | intro h
 all_goals first
  | exact True.intro
  | exact Or.inr rfl
  | exact ⟨_,wa.sub 4 7 (by decide),u5 4 7 wa (by decide) hw,rfl⟩
  | rfl
theorem ok106:FOk Tryz.prog T 106 (cpS 76):=by
 refine fok (env:=envL [(147,(cpG T [.i .i64,.i .i64,.i .i64,.s,.i .i64,.i .i64,.i .i64,.s,.l 74,.l 9,.l 124]))]) (N:=21) tabT (aa ok147 ae) mixed Tryz.func106 rfl Tryz.call106 Tryz.ntmps106 ?_
 rintro args ⟨a,hw,rfl⟩ hwf
 have wa:WfD T (.l 76) (.l a):=arg0 hwf (jdo _)
 clear hwf
 have la:a.length≤maxLen:=wa.len
 refine ⟨by simp,?_⟩
 rw [Tryz.results106]
 repeat' first
  | refine And.intro ?_ ?_
  | (intro h;simp only [reduceCtorEq] at h;done)
  | (intro h;rw [h])
  | intro h
 all_goals first
  | skip
 refine aj (Q:=_) [0,3,4] [] (fun n s=>∃ i:Int,s=([argS 76 a,.val false [.sl true 76 (a.take i.toNat)],.val false [.i .i64 i]],[])∧0≤i∧i≤a.length∧n=a.length - i.toNat) ?_ ?_
 · exact ⟨rfl,a.length - 0,0,rfl,by omega,by omega,rfl⟩
 rintro n s ⟨i,rfl,h1,h2,h3⟩
 repeat' first
  | refine And.intro ?_ ?_
  | (intro h;simp only [reduceCtorEq] at h;done)
  | (intro h;rw [h])
  | intro h
 all_goals first
  | exact True.intro
  | exact Or.inr rfl
  | omega
  | exact jc6 ‹_›
  | exact resSl (lG h1 h2 ‹_›)
  | (have hi:i < (a.length:Int):=jc6 ‹decide (i < (a.length:Int))=true›
     have wr:WfRow T [.i .i64,.i .i64,.i .i64,.s,.i .i64,.i .i64,.i .i64,.s,.l 74,.l 9,.l 124] (a.getD i.toNat []):=wa.row rfl (by omega)
     have hwr:=hU (a:=a) (k:=i.toNat) (by omega)
     first
      | exact ⟨_,wr,by omega,rfl⟩
      | (rw [take_len h1 h2];show i.toNat+1≤maxLen;simp only [maxLen];omega)
      | (rw [take_len h1 h2];show (i.toNat+1) * 152≤_;omega)
      | (refine ⟨a.length - (i+1).toNat,by omega,i+1,?_,by omega,by omega,rfl⟩
         exact yQ (fun r z=>(([argS 76 a,.val false [.sl true 76 r],.val false [.i .i64 z]],[]):Snap)) (lF h1 hi (aw wr)) (aC h1 hi la)))
  | exact rfl
end Go.Proofs.YtdkofgjbbdbglaaGreatDoor.Ab
