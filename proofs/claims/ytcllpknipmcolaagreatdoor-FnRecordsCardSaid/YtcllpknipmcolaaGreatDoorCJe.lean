/- Drawn cells and operations: what is known of them, in plain Lean. No program in -/
import Derived.Test.YtcllpknipmcolaaGreatDoorCJd
import Derived.Test.YtcllpknipmcolaaGreatDoorCPa
namespace Go.Proofs.YtcllpknipmcolaaGreatDoor.Ab
open Go.RowKit
set_option linter.all false
structure CLs where
 id:Int
 ve:Int
 k:Int
 nm:ByteArray
 cd:ByteArray
 n:Int
instance:Inhabited CLs:=⟨⟨0,0,0,ByteArray.empty,ByteArray.empty,0⟩⟩
def CLs.ok (x:CLs):Prop:=inK .i64 x.ve∧inK .i64 x.k∧x.nm.size≤8∧x.cd.size≤700∧inK .i64 x.n
structure EDs where
 k:Int
 at_:Int
 c:CLs
instance:Inhabited EDs:=⟨⟨0,0,default⟩⟩
def EDs.ok (x:EDs):Prop:=inK .i64 x.k∧inK .i64 x.at_∧inK .i64 x.c.id∧x.c.ok
def RdD (r:List D):Prop:=∃ (k n t:Int) (s:ByteArray) (v:Int),r=[.i k,.i n,.i t,.s s,.i 1,.i v,.i 0,.s ⟨#[]⟩,.l [],.l [],.l []]∧inK .i64 k∧inK .i64 n∧inK .i64 t∧s.size≤8∧inK .i64 v
def IntD (r:List D):Prop:=∃ n:Int,r=[.i n]∧inK .i64 n
structure OLs where
 a0:Int
 a1:Int
 a2:Int
 sn:List (List D)
 e:EDs
 fr:ByteArray
 tt:ByteArray
 ce:Int
 ve:Int
 rd:List (List D)
instance:Inhabited OLs:=⟨⟨0,0,0,[],default,ByteArray.empty,ByteArray.empty,0,0,[]⟩⟩
abbrev OLs.row (x:OLs):List D:=[.i x.a0,.i x.a1,.i x.a2,.l x.sn,.i x.e.k,.i x.e.at_,.i x.e.c.id,.i x.e.c.ve,.i x.e.c.k,.s x.e.c.nm,.s x.e.c.cd,.i x.e.c.n,.s x.fr,.s x.tt,.i x.ce,.i x.ve,.l x.rd]
def OLs.ok (x:OLs):Prop:=inK .i64 x.a0∧inK .i64 x.a1∧inK .i64 x.a2∧(x.sn.length≤8∧∀ r ∈ x.sn,IntD r)∧x.e.ok∧x.fr.size≤8∧x.tt.size≤8∧inK .i64 x.ce∧inK .i64 x.ve∧(x.rd.length≤8∧∀ r ∈ x.rd,RdD r)
def OpD (r:List D):Prop:=∃ x:OLs,r=x.row∧x.ok
theorem le120 {s:ByteArray} (h:decide ((s.size:Int) > 120)=false):s.size≤120:=by have:=jcv h;omega
theorem wlen {s:ByteArray} (h:s.size≤5):0≤(((ac (ah s)).length:Nat):Int)∧(((ac (ah s)).length:Nat):Int)≤6:=by
 unfold ac
 rw [jcw]
 have:=dN s
 omega
theorem lO {r:List (List D)} (h:TR 11 r):(bg (strsOf r) ⟨#[32]⟩).size≤r.length * 12:=by
 have:=dc (sep:=⟨#[32]⟩) h.strs
 simp only [strsOf,jcw] at this
 exact this
theorem rZ {n:Int} (h:0≤n∧n < 256):inR n (-1000000000) 1000000000=true:=by
 unfold inR
 rw [jcx,decide_eq_true_eq,decide_eq_true_eq]
 omega
theorem id5 {rows:List (List D)} {i h:Int}:1≤IntKind.i64.wrap (1+fe rows i h 5)∧IntKind.i64.wrap (1+fe rows i h 5) < 6:=by
 have:=aO (rows:=rows) (i:=i) (h:=h) (n:=5) ⟨by decide,by decide⟩
 rw [aB (by omega) (by omega)]
 omega
theorem jby {x n:Int} (h:x=n) (hn:1≤n∧n < 6):0≤x:=by omega
theorem jbA {x n:Int} (h:x=n) (hn:1≤n∧n < 6):x < ((6:Nat):Int):=by omega
theorem y9 {x n:Int} (h:x=n) (hn:1≤n∧n < 6):x.toNat < 6:=by omega
theorem jbz {x n:Int} (h:x=n) (hn:1≤n∧n < 6):inK .i64 x:=ar (by omega)
section
variable {P:Program} {T:Tab} {f:FuncId}
def AnyY (P:Program) (T:Tab) (f:FuncId) (pre:List SV→Prop) {α:Type} (R:α→SV) (post:List SV→α→Prop):Prop :=
 ∃ g:List SV→α,FOk P T f { pre:=pre,res:=fun a=>R (g a) }∧∀ a,pre a→post a (g a)
theorem AnyY.of {pre:List SV→Prop} {α:Type} {R:α→SV} {post:List SV→α→Prop} (x0:List SV→α) (h0:∀ a,pre a→post a (x0 a)) (h:∃ g:List SV→α,FOk P T f { pre:=pre,res:=fun a=>R (g a) }∧∀ a,pre a→(∀ b ∈ a,WfSV T b)→post a (g a)):AnyY P T f pre R post:=by
 classical
 obtain ⟨g,k,q⟩:=h
 refine ⟨fun a=>if ∀ b ∈ a,WfSV T b then g a else x0 a,⟨k.call,(fun hb=>by cases hb),fun _ w X args vals a1 a2 a3 hpre=>?_,(fun hb=>by cases hb)⟩,fun a ha=>?_⟩
 · have:=k.ok rfl w X args vals a1 a2 a3 hpre
   have e:(if ∀ b ∈ args,WfSV T b then g args else x0 args)=g args:=if_pos a2.wfs
   simp only
   rw [e]
   exact this
 · show post a (if ∀ b ∈ a,WfSV T b then g a else x0 a)
   split
   · rename_i h;exact q a ha h
   · exact h0 a ha
end
def zOL:OLs:=⟨0,0,0,[],⟨0,0,⟨0,0,0,⟨#[]⟩,⟨#[]⟩,0⟩⟩,⟨#[]⟩,⟨#[]⟩,0,0,[]⟩
theorem rg:zOL.ok:=⟨kk0,kk0,kk0,⟨jcl _,all0⟩,⟨kk0,kk0,kk0,kk0,kk0,jcl _,jcl _,kk0⟩,jcl _,jcl _,kk0,kk0,jcl _,all0⟩
theorem OpD.at {l:List (List D)} {k:Nat} (h:∀ y ∈ l,OpD y) (hk:k < l.length):OpD (l.getD k []):=d8 h hk
theorem RdD.w {r:List D} (h:RdD r):wRow r≤8:=by
 obtain ⟨k,n,t,s,v,rfl,_,_,_,hs,_⟩:=h
 simp only [wRow,wD,aN,jcI]
 have e:ByteArray.size { data:=#[] }=0:=rfl
 omega
theorem wO:∀ {l:List (List D)},(∀ r ∈ l,RdD r)→aN l≤l.length * 8
 | [],_=>jcA _
 | r :: l,h=>by
   have h1:=(h r (jcP ..)).w
   have h2:=wO (l:=l) fun x hx=>h x (jc3 _ hx)
   simp only [aN,jcz]
   omega
theorem rds_w {l:List (List D)} (h:l.length≤8∧∀ r ∈ l,RdD r):l.length+aN l≤1048576:=by
 have:=wO h.2
 omega
def len2 (m:List SV):Nat:=match m with
 | [.val _ [.sl _ _ a],.val _ [.sl _ _ b]]=>a.length+b.length
 | _=>0
theorem len3I {n:Nat} (h:n=3):(0:Int) < (n:Int):=by omega
theorem jbo {n:Nat} (h:n=3):Int.toNat 0 < n:=by show 0 < n;omega
theorem len3M {n:Nat} (h:n=3):n+1≤maxLen:=by simp only [maxLen];omega
theorem len3B {n:Nat} (h:n=3):(n+1) * 8≤140737488355328:=by omega
theorem len3L {l m:List (List D)} (h:l.length=3):(l++([]++m)).length≤3+m.length:=by simp only [jct,jcm];omega
theorem len3P {l:List (List D)} {k j:Nat} {ds:List D} (h:l.length=3):(ba l k j ds).length≤8:=by rw [ou];omega
theorem yY {l:List (List D)} {k:Nat} {n:Int} (h:∀ r ∈ l,IntD r) (hk:k < l.length) (hn:inK .i64 n):∀ r ∈ ba l k 0 [.i n],IntD r:=by
 obtain ⟨m,e,_⟩:=d8 h hk
 unfold ba
 refine uC h ?_
 rw [e]
 exact ⟨n,rfl,hn⟩
end Go.Proofs.YtcllpknipmcolaaGreatDoor.Ab
namespace Go.Proofs.YtcllpknipmcolaaGreatDoor.Ab
open Go.RowKit
set_option linter.all false
set_option maxRecDepth 100000
set_option maxHeartbeats 2000000
theorem any96:AnyD Tryz.prog T 96 5 (fun m=>m=[]) (fun x:ByteArray=>.val false [.s x]) (fun (m:List SV) (x:ByteArray)=>x.size≤120):=by
 obtain ⟨g144,k144,q144⟩:=any144
 obtain ⟨g143d2,k143d2,q143d2⟩:=any143d2
 refine AnyD.of (fun _=>⟨#[]⟩) (fun _ _=>jcl _) (dJ (α:=ByteArray × Int × Int) (fun _ z=>(fun x:ByteArray=>.val false [.s x]) z.1) (fun a z=>curU 5 a z.2.1 z.2.2) (post:=fun a z=>bi (rowsOf a) z.2.1∧(fun (m:List SV) (x:ByteArray)=>x.size≤120) a.tail z.1) (env:=envL [(35,(bF 5)),(66,(ed 5 9)),(20,cr),(143,spD 5 (fun m=>∃ l:List (List D),(TR 8 l∧1≤l.length∧l.length≤8)∧m=[argS 9 l,.val false [.i .i64 2]]) (fun x:EL=>.val true [.i .i64 x.k,.i .i64 x.n,.s x.t,.sl false 167 x.l]) g143d2),(144, { pre:=preE [.i .i64,.i .i64,.s,.l 167] 5,res:=fun a=>(fun x:ByteArray=>.val false [.s x]) (g144 a) })]) (N:=64) tabT (aa ok35 (aa ok66 (aa ok20 (aa k143d2 (aa k144 ae))))) mixed Tryz.func96 rfl Tryz.call96 Tryz.ntmps96 ?_)
 rintro cs args ⟨rows,i,h0,more,ok,hp,he⟩ hwf
 obtain ⟨rfl,rfl⟩:cs=curC 5 rows i h0∧args=more:=by simpa only [jcK,SV.tup.injEq,jcO,true_and,and_true] using he
 obtain rfl:=hp
 refine ⟨by simp,?_⟩
 clear he hwf
 rw [Tryz.results96]
 repeat' first
  | (refine And.intro ?_ ?_)
  | (intro h;simp only [reduceCtorEq] at h;done)
  | (intro h;rw [h])
  | (intro h)
 all_goals first
  | exact Or.inr rfl
  | (show List.length _=_;rfl)
  | refine ⟨_,_,_,_,?_,⟨by decide,by decide⟩,rfl⟩
  | refine ⟨_,_,_,_,?_,⟨_,⟨((((TR.nil.add (by decide)).add (by decide)).add (by decide)).add (by decide)).add (by decide),by decide,by decide⟩,rfl⟩,rfl⟩
  | exact ⟨_,rfl⟩
  | exact ⟨_,(q143d2 _ _ _ _ (by repeat (first|exact ok|exact ok1|exact ok2|refine aj ?_|refine (q143d2 _ _ _ _ ?_ ⟨_,⟨((((TR.nil.add (by decide)).add (by decide)).add (by decide)).add (by decide)).add (by decide),by decide,by decide⟩,rfl⟩).1)) ⟨_,⟨((((TR.nil.add (by decide)).add (by decide)).add (by decide)).add (by decide)).add (by decide),by decide,by decide⟩,rfl⟩).2,rfl⟩
  | ((with_reducible apply szT)
     · repeat (first|(with_reducible apply cat2)|exact af (P:=fun t=>t.size≤24) (jcl _) (by intro r hr;simp only [az,jct,jcq,jcs,jco,or_false] at hr;rcases hr with rfl|rfl|rfl|rfl|rfl <;> decide) _|exact af (P:=fun t=>t.size≤32) (jcl _) (by intro r hr;simp only [az,jct,jcq,jcs,jco,or_false] at hr;rcases hr with rfl|rfl|rfl|rfl|rfl|rfl|rfl|rfl|rfl <;> decide) _|exact kZ (ar (ao ⟨by decide,by decide⟩))|exact q144 _|exact jcA _)
     · repeat (first|(with_reducible apply cat2)|exact af (P:=fun t=>t.size≤24) (jcl _) (by intro r hr;simp only [az,jct,jcq,jcs,jco,or_false] at hr;rcases hr with rfl|rfl|rfl|rfl|rfl <;> decide) _|exact af (P:=fun t=>t.size≤32) (jcl _) (by intro r hr;simp only [az,jct,jcq,jcs,jco,or_false] at hr;rcases hr with rfl|rfl|rfl|rfl|rfl|rfl|rfl|rfl|rfl <;> decide) _|exact kZ (ar (ao ⟨by decide,by decide⟩))|exact q144 _|exact jcA _)
     · (try simp only [jd,jcS,jcz,jcI,maxLen,Nat.reduceAdd]);omega)
  | (refine ⟨(_,_,_),⟨(by repeat (first|exact ok|exact ok1|exact ok2|refine aj ?_|refine (q143d2 _ _ _ _ ?_ ⟨_,⟨((((TR.nil.add (by decide)).add (by decide)).add (by decide)).add (by decide)).add (by decide),by decide,by decide⟩,rfl⟩).1)),?_⟩,rfl,rfl,True.intro⟩
     first
      | (exact le120 (by with_reducible assumption))
      | (apply szE
         · repeat (first|(with_reducible apply cat2)|exact af (P:=fun t=>t.size≤24) (jcl _) (by intro r hr;simp only [az,jct,jcq,jcs,jco,or_false] at hr;rcases hr with rfl|rfl|rfl|rfl|rfl <;> decide) _|exact af (P:=fun t=>t.size≤32) (jcl _) (by intro r hr;simp only [az,jct,jcq,jcs,jco,or_false] at hr;rcases hr with rfl|rfl|rfl|rfl|rfl|rfl|rfl|rfl|rfl <;> decide) _|exact kZ (ar (ao ⟨by decide,by decide⟩))|exact q144 _|exact jcA _)
         · (try simp only [jd,jcS,jcz,jcI,Nat.reduceAdd]);omega))
 all_goals repeat (first|exact ok|exact ok1|exact ok2|refine aj ?_|refine (q143d2 _ _ _ _ ?_ ⟨_,⟨((((TR.nil.add (by decide)).add (by decide)).add (by decide)).add (by decide)).add (by decide),by decide,by decide⟩,rfl⟩).1)
theorem any142:AnyD Tryz.prog T 142 5 (fun m=>m=[]) (fun x:ByteArray=>.val false [.s x]) (fun (m:List SV) (x:ByteArray)=>x.size≤700):=by
 obtain ⟨g32,k32,q32⟩:=any32
 refine AnyD.of (fun _=>⟨#[]⟩) (fun _ _=>jcl _) (dJ (α:=ByteArray × Int × Int) (fun _ z=>(fun x:ByteArray=>.val false [.s x]) z.1) (fun a z=>curU 5 a z.2.1 z.2.2) (post:=fun a z=>bi (rowsOf a) z.2.1∧(fun (m:List SV) (x:ByteArray)=>x.size≤700) a.tail z.1) (env:=envL [(66,(ed 5 9)),(35,(bF 5)),(40,(fS true)),(20,cr),(52,spJoin),(45,(jJ 5)),(32,spD 5 (fun m=>∃ (s:ByteArray) (l:List (List D)),(s.size≤500000∧eh (l.length:Int)∧∀ k,(((l.getD k []).getD 0 default).str).size≤20)∧m=[.val false [.s s],argS 9 l]) (fun x:ByteArray=>.val false [.s x]) g32)]) (N:=46) tabT (aa ok66 (aa ok35 (aa ok40 (aa ok20 (aa ok52 (aa ok45 (aa k32 ae))))))) mixed Tryz.func142 rfl Tryz.call142 Tryz.ntmps142 ?_)
 rintro cs args ⟨rows,i,h0,more,ok,hp,he⟩ hwf
 obtain ⟨rfl,rfl⟩:cs=curC 5 rows i h0∧args=more:=by simpa only [jcK,SV.tup.injEq,jcO,true_and,and_true] using he
 obtain rfl:=hp
 refine ⟨by simp,?_⟩
 clear he hwf
 rw [Tryz.results142]
 repeat' first
  | (refine And.intro ?_ ?_)
  | (intro h;simp only [reduceCtorEq] at h;done)
  | (intro h;rw [h])
  | (intro h)
 all_goals first
  | (show List.length _=_;rfl)
  | refine ⟨_,_,_,_,?_,⟨by decide,by decide⟩,rfl⟩
  | exact ⟨_,jcr (af (P:=fun t=>t.size≤5) (jcl _) (by intro r hr;simp only [az,jct,jcq,jcs,jco,or_false] at hr;rcases hr with rfl|rfl|rfl|rfl|rfl|rfl <;> decide) _) (by decide),rfl⟩
  | skip
 all_goals try ((with_reducible show bi _ _);repeat (first|exact ok|exact ok1|exact ok2|refine aj ?_|refine (q32 _ _ _ _ ?_ ⟨_,_,⟨by omega,⟨by decide,by decide⟩,fun k=>af (P:=fun t=>t.size≤20) (jcl _) (by intro r hr;simp only [az,jct,jcq,jcs,jco,or_false] at hr;rcases hr with rfl|rfl|rfl|rfl|rfl <;> decide) _⟩,rfl⟩).1))
 refine am (Q:=_) [0,3,4,5,6] [46] (fun q st=>∃ (s:ByteArray) (n m z I H:Int),st=([.ptr 46 0 0,.val false [.s s],.val false [.i .i64 n],.val false [.i .i64 m],.val false [.i .i64 z]],[(0,[.val false [.sl false 5 rows],.val false [.i .i64 I],.val false [.i .i64 H]])])∧(0≤n∧n≤3)∧(0≤m∧m≤6)∧s.size≤5+200 * z.toNat∧bi rows I∧0≤z∧z≤n∧q=n.toNat - z.toNat) ?_ ?_
 · exact ⟨rfl,_,_,_,_,0,_,_,rfl,⟨(aO (rows:=rows) (i:=_) (h:=_) (n:=4) ⟨by decide,by decide⟩).1,jdO (aO (rows:=rows) (i:=_) (h:=_) (n:=4) ⟨by decide,by decide⟩).2⟩,wlen (af (P:=fun t=>t.size≤5) (jcl _) (by intro r hr;simp only [az,jct,jcq,jcs,jco,or_false] at hr;rcases hr with rfl|rfl|rfl|rfl|rfl|rfl <;> decide) _),(af (P:=fun t=>t.size≤5) (jcl _) (by intro r hr;simp only [az,jct,jcq,jcs,jco,or_false] at hr;rcases hr with rfl|rfl|rfl|rfl|rfl|rfl <;> decide) _),(by repeat (first|exact ok|exact ok1|exact ok2|refine aj ?_|refine (q32 _ _ _ _ ?_ ⟨_,_,⟨by omega,⟨by decide,by decide⟩,fun k=>af (P:=fun t=>t.size≤20) (jcl _) (by intro r hr;simp only [az,jct,jcq,jcs,jco,or_false] at hr;rcases hr with rfl|rfl|rfl|rfl|rfl <;> decide) _⟩,rfl⟩).1)),by decide,(aO (rows:=rows) (i:=_) (h:=_) (n:=4) ⟨by decide,by decide⟩).1,rfl⟩
 rintro q st ⟨s,n,m,z,I,H,rfl,hn,hm,hs,ok1,h1,h2,h3⟩
 repeat' first
  | (refine And.intro ?_ ?_)
  | (intro h;simp only [reduceCtorEq] at h;done)
  | (intro h;rw [h])
  | (intro h)
 all_goals first
  | exact Or.inr rfl
  | (show List.length _=_;rfl)
  | exact ⟨_,_,_,_,(by repeat (first|exact ok|exact ok1|exact ok2|refine aj ?_|refine (q32 _ _ _ _ ?_ ⟨_,_,⟨by omega,⟨by decide,by decide⟩,fun k=>af (P:=fun t=>t.size≤20) (jcl _) (by intro r hr;simp only [az,jct,jcq,jcs,jco,or_false] at hr;rcases hr with rfl|rfl|rfl|rfl|rfl <;> decide) _⟩,rfl⟩).1)),⟨by decide,by decide⟩,rfl⟩
  | exact ⟨_,_,_,_,(by repeat (first|exact ok|exact ok1|exact ok2|refine aj ?_|refine (q32 _ _ _ _ ?_ ⟨_,_,⟨by omega,⟨by decide,by decide⟩,fun k=>af (P:=fun t=>t.size≤20) (jcl _) (by intro r hr;simp only [az,jct,jcq,jcs,jco,or_false] at hr;rcases hr with rfl|rfl|rfl|rfl|rfl <;> decide) _⟩,rfl⟩).1)),⟨_,_,⟨by omega,⟨by decide,by decide⟩,fun k=>af (P:=fun t=>t.size≤20) (jcl _) (by intro r hr;simp only [az,jct,jcq,jcs,jco,or_false] at hr;rcases hr with rfl|rfl|rfl|rfl|rfl <;> decide) _⟩,rfl⟩,rfl⟩
  | (refine ⟨(_,_,_),⟨(by repeat (first|exact ok|exact ok1|exact ok2|refine aj ?_|refine (q32 _ _ _ _ ?_ ⟨_,_,⟨by omega,⟨by decide,by decide⟩,fun k=>af (P:=fun t=>t.size≤20) (jcl _) (by intro r hr;simp only [az,jct,jcq,jcs,jco,or_false] at hr;rcases hr with rfl|rfl|rfl|rfl|rfl <;> decide) _⟩,rfl⟩).1)),?_⟩,rfl,rfl,True.intro⟩
     first
      | (show s.size≤700;omega)
      | exact jcr (q32 _ _ _ _ (by repeat (first|exact ok|exact ok1|exact ok2|refine aj ?_|refine (q32 _ _ _ _ ?_ ⟨_,_,⟨by omega,⟨by decide,by decide⟩,fun k=>af (P:=fun t=>t.size≤20) (jcl _) (by intro r hr;simp only [az,jct,jcq,jcs,jco,or_false] at hr;rcases hr with rfl|rfl|rfl|rfl|rfl <;> decide) _⟩,rfl⟩).1)) ⟨_,_,⟨by omega,⟨by decide,by decide⟩,fun k=>af (P:=fun t=>t.size≤20) (jcl _) (by intro r hr;simp only [az,jct,jcq,jcs,jco,or_false] at hr;rcases hr with rfl|rfl|rfl|rfl|rfl <;> decide) _⟩,rfl⟩).2 (show s.size+20≤700 by omega))
  | skip
 have hz:z < n:=jck ‹decide (z < n)=true›
 refine am (Q:=_) [0,3,4,5,6,7,8] [46] (fun q st=>∃ (r:List (List D)) (k I2 H2:Int),st=([.ptr 46 0 0,.val false [.s s],.val false [.i .i64 n],.val false [.i .i64 m],.val false [.i .i64 z],.val false [.sl true 9 r],.val false [.i .i64 k]],[(0,[.val false [.sl false 5 rows],.val false [.i .i64 I2],.val false [.i .i64 H2]])])∧TR 11 r∧r.length=k.toNat∧bi rows I2∧0≤k∧k≤m∧q=m.toNat - k.toNat) ?_ ?_
 · exact ⟨rfl,_,_,0,_,_,rfl,TR.nil,rfl,ok1,by decide,hm.1,rfl⟩
 rintro q2 st2 ⟨r,k,I2,H2,rfl,hT,hrl,ok2,k1,k2,k3⟩
 repeat' first
  | (refine And.intro ?_ ?_)
  | (intro h;simp only [reduceCtorEq] at h;done)
  | (intro h;rw [h])
  | (intro h)
 all_goals first
  | (show aV _ _;rfl)
  | (show List.length _=_;rfl)
  | exact ⟨_,_,_,_,(by repeat (first|exact ok|exact ok1|exact ok2|refine aj ?_|refine (q32 _ _ _ _ ?_ ⟨_,_,⟨by omega,⟨by decide,by decide⟩,fun k=>af (P:=fun t=>t.size≤20) (jcl _) (by intro r hr;simp only [az,jct,jcq,jcs,jco,or_false] at hr;rcases hr with rfl|rfl|rfl|rfl|rfl <;> decide) _⟩,rfl⟩).1)),⟨by decide,by decide⟩,rfl⟩
  | exact ⟨_,rfl⟩
  | (show r.length+1≤maxLen;simp only [maxLen];omega)
  | (show (r.length+1) * 16≤140737488355328;omega)
  | (show s.size+2≤maxLen;simp only [maxLen];omega)
  | exact ⟨_,_,by omega,jcr (lO hT) (by omega),rfl⟩
  | (show (s++_).size+_≤maxLen;have:=lO hT;rw [jcF];show s.size+2+_≤maxLen;simp only [maxLen];omega)
  | (have hk:k < m:=jck ‹decide (k < m)=true›
     refine ⟨m.toNat - (k+1).toNat,by omega,_,k+1,_,_,congrArg (fun x=>(([.ptr 46 0 0,.val false [.s s],.val false [.i .i64 n],.val false [.i .i64 m],.val false [.i .i64 z],.val false [.sl true 9 _],.val false [.i .i64 x]],[(0,[.val false [.sl false 5 rows],.val false [.i .i64 _],.val false [.i .i64 _]])]):Snap)) (aB (by omega) (by omega)),hT.add (cm (rZ (ao ⟨by decide,by decide⟩))),by rw [jcm,hrl];show k.toNat+1=_;omega,(by repeat (first|exact ok|exact ok1|exact ok2|refine aj ?_|refine (q32 _ _ _ _ ?_ ⟨_,_,⟨by omega,⟨by decide,by decide⟩,fun k=>af (P:=fun t=>t.size≤20) (jcl _) (by intro r hr;simp only [az,jct,jcq,jcs,jco,or_false] at hr;rcases hr with rfl|rfl|rfl|rfl|rfl <;> decide) _⟩,rfl⟩).1)),by omega,by omega,rfl⟩)
  | (refine ⟨n.toNat - (z+1).toNat,by omega,_,n,m,z+1,_,_,congrArg (fun x=>(([.ptr 46 0 0,.val false [.s _],.val false [.i .i64 n],.val false [.i .i64 m],.val false [.i .i64 x]],[(0,[.val false [.sl false 5 rows],.val false [.i .i64 _],.val false [.i .i64 _]])]):Snap)) (aB (by omega) (by omega)),hn,hm,?_,ok2,by omega,by omega,rfl⟩
     have:=lO hT
     rw [jcF,jcF]
     show s.size+2+_≤_
     omega)
theorem any95:AnyD Tryz.prog T 95 5 (fun m=>∃ n:Int,m=[.val false [.i .i64 n]]) (fun x:CLs=>.val true [.i .i64 x.id,.i .i64 x.ve,.i .i64 x.k,.s x.nm,.s x.cd,.i .i64 x.n]) (fun (m:List SV) (x:CLs)=>x.id=nOfM m∧x.ok):=by
 obtain ⟨g46,k46,q46⟩:=any46
 obtain ⟨g96,k96,q96⟩:=any96
 obtain ⟨g142,k142,q142⟩:=any142
 refine AnyD.of (fun m=>⟨nOfM m,0,0,⟨#[]⟩,⟨#[]⟩,0⟩) (fun m _=>⟨rfl,kk0,kk0,jcl _,jcl _,kk0⟩) (dJ (α:=CLs × Int × Int) (fun _ z=>(fun x:CLs=>.val true [.i .i64 x.id,.i .i64 x.ve,.i .i64 x.k,.s x.nm,.s x.cd,.i .i64 x.n]) z.1) (fun a z=>curU 5 a z.2.1 z.2.2) (post:=fun a z=>bi (rowsOf a) z.2.1∧(fun (m:List SV) (x:CLs)=>x.id=nOfM m∧x.ok) a.tail z.1) (env:=envL [(35,(bF 5)),(46,spD 5 (fun m=>∃ l:List (List D),eh (l.length:Int)∧m=[argS 3 l]) (fun x:Int=>.val false [.i .i64 x]) g46),(66,(ed 5 9)),(96,spD 5 (fun m=>m=[]) (fun x:ByteArray=>.val false [.s x]) g96),(142,spD 5 (fun m=>m=[]) (fun x:ByteArray=>.val false [.s x]) g142)]) (N:=42) tabT (aa ok35 (aa k46 (aa ok66 (aa k96 (aa k142 ae))))) mixed Tryz.func95 rfl Tryz.call95 Tryz.ntmps95 ?_)
 rintro cs args ⟨rows,i,h0,more,ok,hp,he⟩ hwf
 obtain ⟨rfl,rfl⟩:cs=curC 5 rows i h0∧args=more:=by simpa only [jcK,SV.tup.injEq,jcO,true_and,and_true] using he
 obtain ⟨n,rfl⟩:=hp
 refine ⟨by simp,?_⟩
 clear he hwf
 rw [Tryz.results95]
 repeat' first
  | (refine And.intro ?_ ?_)
  | (intro h;simp only [reduceCtorEq] at h;done)
  | (intro h;rw [h])
  | (intro h)
 all_goals first
  | exact Or.inr rfl
  | (show List.length _=_;rfl)
  | refine ⟨_,_,_,_,?_,⟨by decide,by decide⟩,rfl⟩
  | refine ⟨_,_,_,_,?_,⟨_,⟨by decide,by decide⟩,rfl⟩,rfl⟩
  | refine ⟨_,_,_,_,?_,rfl,rfl⟩
  | (refine ⟨(⟨_,_,_,_,_,_⟩,_,_),⟨?_,?_⟩,rfl,rfl,True.intro⟩;rotate_left;refine ⟨rfl,aW _ _,?_,?_,?_,?_⟩
     · exact ((q46 _ _ _ _ (by repeat (first|exact ok|exact ok1|exact ok2|refine aj ?_|refine (q46 _ _ _ _ ?_ ⟨_,⟨by decide,by decide⟩,rfl⟩).1|refine (q96 _ _ _ _ ?_ rfl).1|refine (q142 _ _ _ _ ?_ rfl).1)) ⟨_,⟨by decide,by decide⟩,rfl⟩).2 (inK .i64) kk0 (by intro r hr;simp only [az,jct,jcq,jcs,jco,or_false] at hr;rcases hr with rfl|rfl|rfl|rfl|rfl|rfl|rfl|rfl <;> exact ⟨by decide,by decide⟩))
     · first|exact af (P:=fun t=>t.size≤8) (jcl _) (by intro r hr;simp only [az,jct,jcq,jcs,jco,or_false] at hr;rcases hr with rfl|rfl|rfl|rfl|rfl <;> decide) _|exact jcl _|decide
     · first|exact af (P:=fun t=>t.size≤700) (jcl _) (by intro r hr;simp only [az,jct,jcq,jcs,jco,or_false] at hr;rcases hr with rfl|rfl|rfl <;> decide) _|exact jcr (q96 _ _ _ _ (by repeat (first|exact ok|exact ok1|exact ok2|refine aj ?_|refine (q46 _ _ _ _ ?_ ⟨_,⟨by decide,by decide⟩,rfl⟩).1|refine (q96 _ _ _ _ ?_ rfl).1|refine (q142 _ _ _ _ ?_ rfl).1)) rfl).2 (by decide)|exact (q142 _ _ _ _ (by repeat (first|exact ok|exact ok1|exact ok2|refine aj ?_|refine (q46 _ _ _ _ ?_ ⟨_,⟨by decide,by decide⟩,rfl⟩).1|refine (q96 _ _ _ _ ?_ rfl).1|refine (q142 _ _ _ _ ?_ rfl).1)) rfl).2|decide|exact jcl _
     · first|exact kk0|exact ar (ao ⟨by decide,by decide⟩))
 all_goals repeat (first|exact ok|exact ok1|exact ok2|refine aj ?_|refine (q46 _ _ _ _ ?_ ⟨_,⟨by decide,by decide⟩,rfl⟩).1|refine (q96 _ _ _ _ ?_ rfl).1|refine (q142 _ _ _ _ ?_ rfl).1)
theorem any68:AnyD Tryz.prog T 68 5 (fun m=>m=[]) (fun x:EDs=>.val true [.i .i64 x.k,.i .i64 x.at_,.i .i64 x.c.id,.i .i64 x.c.ve,.i .i64 x.c.k,.s x.c.nm,.s x.c.cd,.i .i64 x.c.n]) (fun (m:List SV) (x:EDs)=>x.ok):=by
 obtain ⟨g46,k46,q46⟩:=any46
 obtain ⟨g95,k95,q95⟩:=any95
 obtain ⟨g96,k96,q96⟩:=any96
 refine AnyD.of (fun _=>⟨0,0,⟨0,0,0,⟨#[]⟩,⟨#[]⟩,0⟩⟩) (fun _ _=>⟨kk0,kk0,kk0,kk0,kk0,jcl _,jcl _,kk0⟩) (dJ (α:=EDs × Int × Int) (fun _ z=>(fun x:EDs=>.val true [.i .i64 x.k,.i .i64 x.at_,.i .i64 x.c.id,.i .i64 x.c.ve,.i .i64 x.c.k,.s x.c.nm,.s x.c.cd,.i .i64 x.c.n]) z.1) (fun a z=>curU 5 a z.2.1 z.2.2) (post:=fun a z=>bi (rowsOf a) z.2.1∧(fun (m:List SV) (x:EDs)=>x.ok) a.tail z.1) (env:=envL [(46,spD 5 (fun m=>∃ l:List (List D),eh (l.length:Int)∧m=[argS 3 l]) (fun x:Int=>.val false [.i .i64 x]) g46),(35,(bF 5)),(95,spD 5 (fun m=>∃ n:Int,m=[.val false [.i .i64 n]]) (fun x:CLs=>.val true [.i .i64 x.id,.i .i64 x.ve,.i .i64 x.k,.s x.nm,.s x.cd,.i .i64 x.n]) g95),(96,spD 5 (fun m=>m=[]) (fun x:ByteArray=>.val false [.s x]) g96)]) (N:=35) tabT (aa k46 (aa ok35 (aa k95 (aa k96 ae)))) mixed Tryz.func68 rfl Tryz.call68 Tryz.ntmps68 ?_)
 rintro cs args ⟨rows,i,h0,more,ok,hp,he⟩ hwf
 obtain ⟨rfl,rfl⟩:cs=curC 5 rows i h0∧args=more:=by simpa only [jcK,SV.tup.injEq,jcO,true_and,and_true] using he
 obtain rfl:=hp
 refine ⟨by simp,?_⟩
 clear he hwf
 rw [Tryz.results68]
 repeat' first
  | (refine And.intro ?_ ?_)
  | (intro h;simp only [reduceCtorEq] at h;done)
  | (intro h;rw [h])
  | (intro h)
 all_goals first
  | exact Or.inr rfl
  | (show List.length _=_;rfl)
  | refine ⟨_,_,_,_,?_,⟨by decide,by decide⟩,rfl⟩
  | refine ⟨_,_,_,_,?_,⟨_,⟨by decide,by decide⟩,rfl⟩,rfl⟩
  | refine ⟨_,_,_,_,?_,⟨_,rfl⟩,rfl⟩
  | refine ⟨_,_,_,_,?_,rfl,rfl⟩
  | exact jby (q95 _ _ _ _ (by repeat (first|exact ok|exact ok1|exact ok2|refine aj ?_|refine (q46 _ _ _ _ ?_ ⟨_,⟨by decide,by decide⟩,rfl⟩).1|refine (q95 _ _ _ _ ?_ ⟨_,rfl⟩).1|refine (q96 _ _ _ _ ?_ rfl).1)) ⟨_,rfl⟩).2.1 id5
  | exact jbA (q95 _ _ _ _ (by repeat (first|exact ok|exact ok1|exact ok2|refine aj ?_|refine (q46 _ _ _ _ ?_ ⟨_,⟨by decide,by decide⟩,rfl⟩).1|refine (q95 _ _ _ _ ?_ ⟨_,rfl⟩).1|refine (q96 _ _ _ _ ?_ rfl).1)) ⟨_,rfl⟩).2.1 id5
  | exact y9 (q95 _ _ _ _ (by repeat (first|exact ok|exact ok1|exact ok2|refine aj ?_|refine (q46 _ _ _ _ ?_ ⟨_,⟨by decide,by decide⟩,rfl⟩).1|refine (q95 _ _ _ _ ?_ ⟨_,rfl⟩).1|refine (q96 _ _ _ _ ?_ rfl).1)) ⟨_,rfl⟩).2.1 id5
  | (refine ⟨(⟨_,_,⟨_,_,_,D.str _,_,_⟩⟩,_,_),⟨?_,?_⟩,rfl,rfl,True.intro⟩;rotate_left;refine ⟨?_,?_,?_,?_,?_,?_,?_,?_⟩
     · exact ((q46 _ _ _ _ (by repeat (first|exact ok|exact ok1|exact ok2|refine aj ?_|refine (q46 _ _ _ _ ?_ ⟨_,⟨by decide,by decide⟩,rfl⟩).1|refine (q95 _ _ _ _ ?_ ⟨_,rfl⟩).1|refine (q96 _ _ _ _ ?_ rfl).1)) ⟨_,⟨by decide,by decide⟩,rfl⟩).2 (inK .i64) kk0 (by intro r hr;simp only [az,jct,jcq,jcs,jco,or_false] at hr;rcases hr with rfl|rfl|rfl|rfl|rfl|rfl|rfl|rfl|rfl|rfl <;> exact ⟨by decide,by decide⟩))
     · exact ar (ao ⟨by decide,by decide⟩)
     · exact jbz (q95 _ _ _ _ (by repeat (first|exact ok|exact ok1|exact ok2|refine aj ?_|refine (q46 _ _ _ _ ?_ ⟨_,⟨by decide,by decide⟩,rfl⟩).1|refine (q95 _ _ _ _ ?_ ⟨_,rfl⟩).1|refine (q96 _ _ _ _ ?_ rfl).1)) ⟨_,rfl⟩).2.1 id5
     · exact (q95 _ _ _ _ (by repeat (first|exact ok|exact ok1|exact ok2|refine aj ?_|refine (q46 _ _ _ _ ?_ ⟨_,⟨by decide,by decide⟩,rfl⟩).1|refine (q95 _ _ _ _ ?_ ⟨_,rfl⟩).1|refine (q96 _ _ _ _ ?_ rfl).1)) ⟨_,rfl⟩).2.2.1
     · first|exact kk2|exact (q95 _ _ _ _ (by repeat (first|exact ok|exact ok1|exact ok2|refine aj ?_|refine (q46 _ _ _ _ ?_ ⟨_,⟨by decide,by decide⟩,rfl⟩).1|refine (q95 _ _ _ _ ?_ ⟨_,rfl⟩).1|refine (q96 _ _ _ _ ?_ rfl).1)) ⟨_,rfl⟩).2.2.2.1
     · exact af (P:=fun t=>t.size≤8) (jcl _) (by intro r hr;simp only [az,jct,jcq,jcs,jco,or_false] at hr;rcases hr with rfl|rfl|rfl|rfl|rfl|rfl <;> decide) _
     · first|exact jcr (q96 _ _ _ _ (by repeat (first|exact ok|exact ok1|exact ok2|refine aj ?_|refine (q46 _ _ _ _ ?_ ⟨_,⟨by decide,by decide⟩,rfl⟩).1|refine (q95 _ _ _ _ ?_ ⟨_,rfl⟩).1|refine (q96 _ _ _ _ ?_ rfl).1)) rfl).2 (by decide)|exact (q95 _ _ _ _ (by repeat (first|exact ok|exact ok1|exact ok2|refine aj ?_|refine (q46 _ _ _ _ ?_ ⟨_,⟨by decide,by decide⟩,rfl⟩).1|refine (q95 _ _ _ _ ?_ ⟨_,rfl⟩).1|refine (q96 _ _ _ _ ?_ rfl).1)) ⟨_,rfl⟩).2.2.2.2.2.1
     · exact (q95 _ _ _ _ (by repeat (first|exact ok|exact ok1|exact ok2|refine aj ?_|refine (q46 _ _ _ _ ?_ ⟨_,⟨by decide,by decide⟩,rfl⟩).1|refine (q95 _ _ _ _ ?_ ⟨_,rfl⟩).1|refine (q96 _ _ _ _ ?_ rfl).1)) ⟨_,rfl⟩).2.2.2.2.2.2)
 all_goals repeat (first|exact ok|exact ok1|exact ok2|refine aj ?_|refine (q46 _ _ _ _ ?_ ⟨_,⟨by decide,by decide⟩,rfl⟩).1|refine (q95 _ _ _ _ ?_ ⟨_,rfl⟩).1|refine (q96 _ _ _ _ ?_ rfl).1)
def cpG (T:Tab) (cts:List CT):FSpec where
 pre args:=∃ a:List D,WfRow T cts a∧wRow a≤1048576∧args=[argG cts a]
 res args:=match args with
  | [a]=>a
  | _=>.none
def cpGn (T:Tab) (cts:List CT) (n:Nat):FSpec where
 pre args:=∃ a:List D,WfRow T cts a∧SizeOf.sizeOf a < n∧wRow a≤1048576∧args=[argG cts a]
 res:=(cpG T cts).res
def cpS (e:TypeId):FSpec where
 pre args:=∃ a:List (List D),a.length+aN a≤1048576∧args=[argS e a]
 res args:=match args with
  | [.val _ [.sl _ _ a]]=>.val false [.sl true e a]
  | _=>.none
theorem lw {a:List (List D)} {i:Int} (h0:0≤i) (hi:i < a.length) {r:List D} (hr:r=a.getD i.toNat []):a.take i.toNat++[r]=a.take (i+1).toNat:=by
 have e:(i+1).toNat=i.toNat+1:=by omega
 rw [e,jdj,fD h0 hi,hr]
 rfl
theorem lx {a:List (List D)} {i:Int} (h0:0≤i) (hi:i≤a.length) (h:decide (i < (a.length:Int))=false):a.take i.toNat=a:=by
 have:¬ i < (a.length:Int):=jcv h
 rw [show i.toNat=a.length by omega,jdd]
theorem take_len {a:List (List D)} {i:Int} (h0:0≤i) (hi:i≤a.length):(a.take i.toNat).length=i.toNat:=by
 rw [jcD,jdz (by omega)]
theorem cE {a:List D} (hw:wRow a≤1048576) (j:Nat):(a.getD j default).rows.length+aN (a.getD j default).rows≤1048576:=jcr (cu a j) hw
theorem uJ {T:Tab} {cts:List CT} {a:List D} (k n:Nat) (wa:WfRow T cts a) (hk:k+n≤cts.length) (hw:wRow a≤1048576):wRow (sub a k n)≤1048576:=jcr (xM (by rw [wa.1];exact hk)) hw
theorem yk (f:List (List D)→Int→Snap) {r r' : List (List D)} {a b:Int} (h:r=r') (h2:a=b):f r a=f r' b:=by rw [h,h2]
theorem resSl {e:TypeId} {a b:List (List D)} (h:a=b):[CV.sl true e a]=[CV.sl true e b]:=by rw [h]
theorem ok224:FOk Tryz.prog T 224 (cpG T [.l 3,.l 126]):=by
 refine fok (env:=envL []) (N:=12) tabT ae mixed Tryz.func224 rfl Tryz.call224 Tryz.ntmps224 ?_
 rintro args ⟨a,wa,hw,rfl⟩ hwf
 refine ⟨by simp,?_⟩
 clear hwf
 rw [Tryz.results224]
 repeat' first
  | (refine And.intro ?_ ?_)
  | (intro h;simp only [reduceCtorEq] at h;done)
  | (intro h;rw [h])
  | (intro h)
 all_goals first
  | (show av _=true;kernel_rfl)
  | (show aX _ _=true;kernel_rfl)
  | exact True.intro
  | exact Or.inr rfl
  | (have q:=cE hw 0;show 0+(a.getD 0 default).rows.length≤maxLen;simp only [maxLen];omega)
  | (have q:=cE hw 1;show 0+(a.getD 1 default).rows.length≤maxLen;simp only [maxLen];omega)
  | (have q:=cE hw 0;show (0+(a.getD 0 default).rows.length) * 8≤140737488355328;omega)
  | (have q:=cE hw 1;show (0+(a.getD 1 default).rows.length) * 16≤140737488355328;omega)
  | rfl
theorem ya (n:Nat) (hn:FOk Tryz.prog T 213 (cpGn T cV n)):FOk Tryz.prog T 213 (cpGn T cV (n+1)):=by
 refine fok (env:=envL [(213,(cpGn T cV n)),(224,(cpG T [.l 3,.l 126]))]) (N:=56) tabT (aa hn (aa ok224 ae)) mixed Tryz.func213 rfl Tryz.call213 Tryz.ntmps213 ?_
 rintro args ⟨a,wa,hs,hw,rfl⟩ hwf
 clear hwf
 refine ⟨by simp,?_⟩
 rw [Tryz.results213]
 repeat' first
  | (refine And.intro ?_ ?_)
  | (intro h;simp only [reduceCtorEq] at h;done)
  | (intro h;rw [h])
  | (intro h)
 all_goals first
  | (show av _=true;kernel_rfl)
  | (show aX _ _=true;kernel_rfl)
  | (have q:=cE hw 5;show 0+(a.getD 5 default).rows.length≤maxLen;simp only [maxLen];omega)
  | (have q:=cE hw 5;show (0+(a.getD 5 default).rows.length) * 16≤140737488355328;omega)
  | skip
 have wR0:WfD T (.l 57) (.l (a.getD 4 default).rows):=wa.rows (j:=4) rfl
 have lR0:(a.getD 4 default).rows.length≤maxLen:=wR0.len
 have hR0:=cE hw 4
 have zR0:SizeOf.sizeOf (a.getD 4 default).rows < SizeOf.sizeOf a:=eJ (by rw [wa.1];decide)
 refine am (Q:=_) [1,2,3,4] [1,2,3] (fun n s=>∃ i:Int,s=([.ptr 1 1 0,.ptr 2 1 0,.ptr 3 1 0,.val false [.i .i64 i]],[(1,(rowC cV a).map fun c=>.val false [c]),(1,[.val false [.i .i64 0],.val false [.i .i64 0],.val false [.i .i64 0],.val false [.s ByteArray.empty],.val false [.sl true 57 []],.val false [.sl true 9 []],.val false [.sl true 101 []]]),(1,[.val false [.i .i64 (a.getD 0 default).int],.val false [.i .i64 (a.getD 1 default).int],.val false [.i .i64 (a.getD 2 default).int],.val false [.s (a.getD 3 default).str],.val false [.sl true 57 ((a.getD 4 default).rows.take i.toNat)],.val false [.sl true 9 (a.getD 5 default).rows],.val false [.sl true 101 []]])])∧0≤i∧i≤(a.getD 4 default).rows.length∧n=(a.getD 4 default).rows.length - i.toNat) ?_ ?_
 · exact ⟨rfl,(a.getD 4 default).rows.length - 0,0,rfl,by omega,by omega,rfl⟩
 rintro n0 s ⟨i,rfl,h1,h2,h3⟩
 repeat' first
  | (refine And.intro ?_ ?_)
  | (intro h;simp only [reduceCtorEq] at h;done)
  | (intro h;rw [h])
  | (intro h)
 all_goals first
  | (show av _=true;kernel_rfl)
  | (show aX _ _=true;kernel_rfl)
  | omega
  | exact jck ‹_›
  | (have hi:i < ((a.getD 4 default).rows.length:Int):=jck ‹decide (i < ((a.getD 4 default).rows.length:Int))=true›
     have wr:WfRow T cV ((a.getD 4 default).rows.getD i.toNat []):=wR0.row rfl (by omega)
     have hwr:=gW (a:=(a.getD 4 default).rows) (k:=i.toNat) (by omega)
     first
      | exact ⟨_,wr,jdi (Nat.lt_trans (i8 (by omega)) zR0) (jec hs),by omega,rfl⟩
      | (rw [take_len h1 h2];show i.toNat+1≤maxLen;simp only [maxLen];omega)
      | (rw [take_len h1 h2];show (i.toNat+1) * 112≤_;omega)
      | (refine ⟨(a.getD 4 default).rows.length - (i+1).toNat,by omega,i+1,?_,by omega,by omega,rfl⟩
         exact yk (fun r z=>(([.ptr 1 1 0,.ptr 2 1 0,.ptr 3 1 0,.val false [.i .i64 z]],[(1,(rowC cV a).map fun c=>.val false [c]),(1,[.val false [.i .i64 0],.val false [.i .i64 0],.val false [.i .i64 0],.val false [.s ByteArray.empty],.val false [.sl true 57 []],.val false [.sl true 9 []],.val false [.sl true 101 []]]),(1,[.val false [.i .i64 (a.getD 0 default).int],.val false [.i .i64 (a.getD 1 default).int],.val false [.i .i64 (a.getD 2 default).int],.val false [.s (a.getD 3 default).str],.val false [.sl true 57 r],.val false [.sl true 9 (a.getD 5 default).rows],.val false [.sl true 101 []]])]):Snap)) (lw h1 hi (aw wr)) (aE h1 hi lR0)))
  | exact rfl
  | skip
 have hT0:(a.getD 4 default).rows.take i.toNat=(a.getD 4 default).rows:=lx h1 h2 ‹decide (i < ((a.getD 4 default).rows.length:Int))=false›
 rw [hT0]
 clear h1 h2 h3 hT0
 have wR1:WfD T (.l 101) (.l (a.getD 6 default).rows):=wa.rows (j:=6) rfl
 have lR1:(a.getD 6 default).rows.length≤maxLen:=wR1.len
 have hR1:=cE hw 6
 have zR1:SizeOf.sizeOf (a.getD 6 default).rows < SizeOf.sizeOf a:=eJ (by rw [wa.1];decide)
 refine am (Q:=_) [1,2,3,5] [1,2,3] (fun n s=>∃ i:Int,s=([.ptr 1 1 0,.ptr 2 1 0,.ptr 3 1 0,.val false [.i .i64 i]],[(1,(rowC cV a).map fun c=>.val false [c]),(1,[.val false [.i .i64 0],.val false [.i .i64 0],.val false [.i .i64 0],.val false [.s ByteArray.empty],.val false [.sl true 57 []],.val false [.sl true 9 []],.val false [.sl true 101 []]]),(1,[.val false [.i .i64 (a.getD 0 default).int],.val false [.i .i64 (a.getD 1 default).int],.val false [.i .i64 (a.getD 2 default).int],.val false [.s (a.getD 3 default).str],.val false [.sl true 57 (a.getD 4 default).rows],.val false [.sl true 9 (a.getD 5 default).rows],.val false [.sl true 101 ((a.getD 6 default).rows.take i.toNat)]])])∧0≤i∧i≤(a.getD 6 default).rows.length∧n=(a.getD 6 default).rows.length - i.toNat) ?_ ?_
 · exact ⟨rfl,(a.getD 6 default).rows.length - 0,0,rfl,by omega,by omega,rfl⟩
 rintro n1 s ⟨i,rfl,h1,h2,h3⟩
 repeat' first
  | (refine And.intro ?_ ?_)
  | (intro h;simp only [reduceCtorEq] at h;done)
  | (intro h;rw [h])
  | (intro h)
 all_goals first
  | (show av _=true;kernel_rfl)
  | (show aX _ _=true;kernel_rfl)
  | exact True.intro
  | exact Or.inr rfl
  | omega
  | exact jck ‹_›
  | (have hi:i < ((a.getD 6 default).rows.length:Int):=jck ‹decide (i < ((a.getD 6 default).rows.length:Int))=true›
     have wr:WfRow T [.l 3,.l 126] ((a.getD 6 default).rows.getD i.toNat []):=wR1.row rfl (by omega)
     have hwr:=gW (a:=(a.getD 6 default).rows) (k:=i.toNat) (by omega)
     first
      | exact ⟨_,wr,by omega,rfl⟩
      | (rw [take_len h1 h2];show i.toNat+1≤maxLen;simp only [maxLen];omega)
      | (rw [take_len h1 h2];show (i.toNat+1) * 48≤_;omega)
      | (refine ⟨(a.getD 6 default).rows.length - (i+1).toNat,by omega,i+1,?_,by omega,by omega,rfl⟩
         exact yk (fun r z=>(([.ptr 1 1 0,.ptr 2 1 0,.ptr 3 1 0,.val false [.i .i64 z]],[(1,(rowC cV a).map fun c=>.val false [c]),(1,[.val false [.i .i64 0],.val false [.i .i64 0],.val false [.i .i64 0],.val false [.s ByteArray.empty],.val false [.sl true 57 []],.val false [.sl true 9 []],.val false [.sl true 101 []]]),(1,[.val false [.i .i64 (a.getD 0 default).int],.val false [.i .i64 (a.getD 1 default).int],.val false [.i .i64 (a.getD 2 default).int],.val false [.s (a.getD 3 default).str],.val false [.sl true 57 (a.getD 4 default).rows],.val false [.sl true 9 (a.getD 5 default).rows],.val false [.sl true 101 r]])]):Snap)) (lw h1 hi (aw wr)) (aE h1 hi lR1)))
  | exact rfl
  | skip
 have hT1:(a.getD 6 default).rows.take i.toNat=(a.getD 6 default).rows:=lx h1 h2 ‹decide (i < ((a.getD 6 default).rows.length:Int))=false›
 rw [hT1]
 rfl
theorem xu:FOk Tryz.prog T 213 (cpGn T cV 0):=by
 refine fok (env:=envL []) (N:=56) tabT ae mixed Tryz.func213 rfl Tryz.call213 Tryz.ntmps213 ?_
 rintro args ⟨a,wa,hs,hw,rfl⟩ _
 exact absurd hs (jda _)
theorem jcc (n:Nat):FOk Tryz.prog T 213 (cpGn T cV n):=by
 induction n with
 | zero=>exact xu
 | succ n ih=>exact ya n ih
theorem ok213:FOk Tryz.prog T 213 (cpG T cV):=FOk.lift (s:=fun n=>(cpGn T cV n)) jcc (fun args ⟨a,wa,hw,h⟩=>⟨SizeOf.sizeOf a+1,a,wa,jdk _,hw,h⟩) (fun n=>rfl)
theorem ok186:FOk Tryz.prog T 186 (cpG T [.i .i64,.i .i64,.i .i64,.s,.i .i64,.i .i64,.i .i64,.s,.l 57,.l 9,.l 101]):=by
 refine fok (env:=envL [(213,(cpG T cV))]) (N:=8) tabT (aa ok213 ae) mixed Tryz.func186 rfl Tryz.call186 Tryz.ntmps186 ?_
 rintro args ⟨a,wa,hw,rfl⟩ hwf
 refine ⟨by simp,?_⟩
 clear hwf
 rw [Tryz.results186]
 repeat' first
  | (refine And.intro ?_ ?_)
  | (intro h;simp only [reduceCtorEq] at h;done)
  | (intro h;rw [h])
  | (intro h)
 all_goals first
  | exact True.intro
  | exact Or.inr rfl
  | exact ⟨_,wa.sub 4 7 (by decide),uJ 4 7 wa (by decide) hw,rfl⟩
  | rfl
theorem ok145:FOk Tryz.prog T 145 (cpS 59):=by
 refine fok (env:=envL [(186,(cpG T [.i .i64,.i .i64,.i .i64,.s,.i .i64,.i .i64,.i .i64,.s,.l 57,.l 9,.l 101]))]) (N:=21) tabT (aa ok186 ae) mixed Tryz.func145 rfl Tryz.call145 Tryz.ntmps145 ?_
 rintro args ⟨a,hw,rfl⟩ hwf
 have wa:WfD T (.l 59) (.l a):=arg0 hwf (jcC _)
 clear hwf
 have la:a.length≤maxLen:=wa.len
 refine ⟨by simp,?_⟩
 rw [Tryz.results145]
 repeat' first
  | (refine And.intro ?_ ?_)
  | (intro h;simp only [reduceCtorEq] at h;done)
  | (intro h;rw [h])
  | (intro h)
 all_goals first
  | skip
 refine am (Q:=_) [0,3,4] [] (fun n s=>∃ i:Int,s=([argS 59 a,.val false [.sl true 59 (a.take i.toNat)],.val false [.i .i64 i]],[])∧0≤i∧i≤a.length∧n=a.length - i.toNat) ?_ ?_
 · exact ⟨rfl,a.length - 0,0,rfl,by omega,by omega,rfl⟩
 rintro n s ⟨i,rfl,h1,h2,h3⟩
 repeat' first
  | (refine And.intro ?_ ?_)
  | (intro h;simp only [reduceCtorEq] at h;done)
  | (intro h;rw [h])
  | (intro h)
 all_goals first
  | exact True.intro
  | exact Or.inr rfl
  | omega
  | exact jck ‹_›
  | exact resSl (lx h1 h2 ‹_›)
  | (have hi:i < (a.length:Int):=jck ‹decide (i < (a.length:Int))=true›
     have wr:WfRow T [.i .i64,.i .i64,.i .i64,.s,.i .i64,.i .i64,.i .i64,.s,.l 57,.l 9,.l 101] (a.getD i.toNat []):=wa.row rfl (by omega)
     have hwr:=gW (a:=a) (k:=i.toNat) (by omega)
     first
      | exact ⟨_,wr,by omega,rfl⟩
      | (rw [take_len h1 h2];show i.toNat+1≤maxLen;simp only [maxLen];omega)
      | (rw [take_len h1 h2];show (i.toNat+1) * 152≤_;omega)
      | (refine ⟨a.length - (i+1).toNat,by omega,i+1,?_,by omega,by omega,rfl⟩
         exact yk (fun r z=>(([argS 59 a,.val false [.sl true 59 r],.val false [.i .i64 z]],[]):Snap)) (lw h1 hi (aw wr)) (aE h1 hi la)))
  | exact rfl
end Go.Proofs.YtcllpknipmcolaaGreatDoor.Ab
