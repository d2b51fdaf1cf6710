/- Drawn operations and logs: printed by a program of this -/
import Derived.Test.YtcllpknipmcolaaGreatDoorCJe
namespace Go.Proofs.YtcllpknipmcolaaGreatDoor.Ab
open Go.RowKit
set_option linter.all false
set_option maxRecDepth 100000
set_option maxHeartbeats 2000000
theorem any67:AnyX Tryz.prog T 67 (fun a=>∃ l:List (List D),l.length≤1048576∧a=[argS 31 l]) (fun x:Int=>.val false [.i .i64 x]) (fun x:Int=>True):=by
 refine AnyX.of (0) (True.intro) (fokA (fun _ (x:Int)=>.val false [.i .i64 x]) (post:=fun _ (x:Int)=>True) (env:=envL [(94,rT)]) (N:=19) tabT (aa xk94 ae) mixed Tryz.func67 rfl Tryz.call67 Tryz.ntmps67 ?_)
 rintro args ⟨l,hlm,rfl⟩ hwf
 refine ⟨by simp,?_⟩
 clear hwf
 rw [Tryz.results67]
 repeat' first
  | (refine And.intro ?_ ?_)
  | (intro h;simp only [reduceCtorEq] at h;done)
  | (intro h;rw [h])
  | (intro h)
 all_goals first
  | skip
 refine am (Q:=_) [0,3,4] [] (fun n st=>∃ (i:Nat) (m:Int),st=([argS 31 l,.val false [.i .i64 m],.val false [.i .i64 (i:Int)]],[])∧i≤l.length∧n=l.length - i) ?_ ?_
 · exact ⟨rfl,l.length,0,_,rfl,jcl _,rfl⟩
 rintro n st ⟨i,m,rfl,hle,rfl⟩
 repeat' first
  | (refine And.intro ?_ ?_)
  | (intro h;simp only [reduceCtorEq] at h;done)
  | (intro h;rw [h])
  | (intro h)
 all_goals first
  | exact Or.inr rfl
  | with_reducible exact jcy _
  | (have hi:i < l.length:=ltN' (by with_reducible assumption)
     first
      | with_reducible exact jck (by with_reducible assumption)
      | exact ⟨_,_,rfl⟩
      | (refine ⟨l.length - (i+1),by omega,i+1,_,congrArg (fun z:Int=>(([argS 31 l,.val false [.i .i64 _],.val false [.i .i64 z]],[]):Snap)) (d9 hi hlm),by omega,  rfl⟩)
      | (show aV _ _;exact rfl))
  | exact ⟨_,True.intro,rfl,True.intro⟩
theorem any69:AnyX Tryz.prog T 69 (fun a=>∃ (l:List (List D)) (b:Int),l.length≤1048576∧a=[argS 31 l,.val false [.i .i64 b]]) (fun x:Int=>.val false [.i .i64 x]) (fun x:Int=>inK .i64 x):=by
 refine AnyX.of (0) (kk0) (fokA (fun _ (x:Int)=>.val false [.i .i64 x]) (post:=fun _ (x:Int)=>inK .i64 x) (env:=envL []) (N:=23) tabT ae mixed Tryz.func69 rfl Tryz.call69 Tryz.ntmps69 ?_)
 rintro args ⟨l,b,hlm,rfl⟩ hwf
 refine ⟨by simp,?_⟩
 clear hwf
 rw [Tryz.results69]
 repeat' first
  | (refine And.intro ?_ ?_)
  | (intro h;simp only [reduceCtorEq] at h;done)
  | (intro h;rw [h])
  | (intro h)
 all_goals first
  | skip
 refine am (Q:=_) [0,1,5,6] [] (fun n st=>∃ (i:Nat) (m:Int),st=([argS 31 l,.val false [.i .i64 b],.val false [.i .i64 m],.val false [.i .i64 (i:Int)]],[])∧i≤l.length∧inK .i64 m∧n=l.length - i) ?_ ?_
 · exact ⟨rfl,l.length,0,_,rfl,jcl _,kk0,rfl⟩
 rintro n st ⟨i,m,rfl,hle,hm,rfl⟩
 repeat' first
  | (refine And.intro ?_ ?_)
  | (intro h;simp only [reduceCtorEq] at h;done)
  | (intro h;rw [h])
  | (intro h)
 all_goals first
  | exact Or.inr rfl
  | with_reducible exact jcy _
  | (have hi:i < l.length:=ltN' (by with_reducible assumption)
     first
      | with_reducible exact jck (by with_reducible assumption)
      | (refine ⟨l.length - (i+1),by omega,i+1,_,congrArg (fun z:Int=>(([argS 31 l,.val false [.i .i64 b],.val false [.i .i64 _],.val false [.i .i64 z]],[]):Snap)) (d9 hi hlm),by omega,hm,rfl⟩)
      | (refine ⟨l.length - (i+1),by omega,i+1,_,congrArg (fun z:Int=>(([argS 31 l,.val false [.i .i64 b],.val false [.i .i64 _],.val false [.i .i64 z]],[]):Snap)) (d9 hi hlm),by omega,aW _ _,rfl⟩)
      | (show aV _ _;exact rfl))
  | exact ⟨_,hm,rfl,True.intro⟩
theorem any100:AnyX Tryz.prog T 100 (fun a=>∃ x y:List D,a=[argG cO x,argG cO y]) (fun x:Bool=>.val false [.b x]) (fun x:Bool=>True):=by
 refine AnyX.of (false) (True.intro) (fokA (fun _ (x:Bool)=>.val false [.b x]) (post:=fun _ (x:Bool)=>True) (env:=envL []) (N:=24) tabT ae mixed Tryz.func100 rfl Tryz.call100 Tryz.ntmps100 ?_)
 rintro args ⟨x,y,rfl⟩ hwf
 refine ⟨by simp,?_⟩
 clear hwf
 rw [Tryz.results100]
 repeat' first
  | (refine And.intro ?_ ?_)
  | (intro h;simp only [reduceCtorEq] at h;done)
  | (intro h;rw [h])
  | (intro h)
 all_goals first
  | exact Or.inr rfl
  | exact ⟨_,True.intro,rfl,True.intro⟩
theorem any99:AnyX Tryz.prog T 99 (fun a=>∃ (l:List (List D)) (r:List D),l.length≤1048576∧a=[argS 31 l,argG cO r]) (fun x:Int=>.val false [.i .i64 x]) (fun x:Int=>True):=by
 refine AnyX.of (0) (True.intro) (fokA (fun _ (x:Int)=>.val false [.i .i64 x]) (post:=fun _ (x:Int)=>True) (env:=envL []) (N:=31) tabT ae mixed Tryz.func99 rfl Tryz.call99 Tryz.ntmps99 ?_)
 rintro args ⟨l,r,hlm,rfl⟩ hwf
 refine ⟨by simp,?_⟩
 clear hwf
 rw [Tryz.results99]
 repeat' first
  | (refine And.intro ?_ ?_)
  | (intro h;simp only [reduceCtorEq] at h;done)
  | (intro h;rw [h])
  | (intro h)
 all_goals first
  | skip
 refine am (Q:=_) [0,3,5] [3] (fun n st=>∃ (i:Nat),st=([argS 31 l,.ptr 3 1 0,.val false [.i .i64 (i:Int)]],[(1,(rowC cO r).map fun c=>.val false [c])])∧i≤l.length∧n=l.length - i) ?_ ?_
 · exact ⟨rfl,l.length,0,rfl,jcl _,rfl⟩
 rintro n st ⟨i,rfl,hle,rfl⟩
 repeat' first
  | (refine And.intro ?_ ?_)
  | (intro h;simp only [reduceCtorEq] at h;done)
  | (intro h;rw [h])
  | (intro h)
 all_goals first
  | (show av _=true;kernel_rfl)
  | (show aX _ _=true;kernel_rfl)
  | exact Or.inr rfl
  | with_reducible exact jcy _
  | (have hi:i < l.length:=ltN' (by with_reducible assumption)
     first
      | with_reducible exact jck (by with_reducible assumption)
      | exact ⟨_,True.intro,rfl,True.intro⟩
      | (refine ⟨l.length - (i+1),by omega,i+1,congrArg (fun z:Int=>(([argS 31 l,.ptr 3 1 0,.val false [.i .i64 z]],[(1,(rowC cO r).map fun c=>.val false [c])]):Snap)) (d9 hi hlm),by omega,  rfl⟩)
      | (show aV _ _;exact rfl))
  | exact ⟨_,True.intro,rfl,True.intro⟩
theorem any101:AnyX Tryz.prog T 101 (fun a=>∃ x:OLs,x.ok∧a=[argG cO x.row]) (fun x:OLs=>.val true [.i .i64 x.a0,.i .i64 x.a1,.i .i64 x.a2,.sl true 3 x.sn,.i .i64 x.e.k,.i .i64 x.e.at_,.i .i64 x.e.c.id,.i .i64 x.e.c.ve,.i .i64 x.e.c.k,.s x.e.c.nm,.s x.e.c.cd,.i .i64 x.e.c.n,.s x.fr,.s x.tt,.i .i64 x.ce,.i .i64 x.ve,.sl true 59 x.rd]) (fun x:OLs=>x.ok):=by
 refine AnyX.of (zOL) (rg) (fokA (fun _ (x:OLs)=>.val true [.i .i64 x.a0,.i .i64 x.a1,.i .i64 x.a2,.sl true 3 x.sn,.i .i64 x.e.k,.i .i64 x.e.at_,.i .i64 x.e.c.id,.i .i64 x.e.c.ve,.i .i64 x.e.c.k,.s x.e.c.nm,.s x.e.c.cd,.i .i64 x.e.c.n,.s x.fr,.s x.tt,.i .i64 x.ce,.i .i64 x.ve,.sl true 59 x.rd]) (post:=fun _ (x:OLs)=>x.ok) (env:=envL [(145,(cpS 59))]) (N:=13) tabT (aa ok145 ae) mixed Tryz.func101 rfl Tryz.call101 Tryz.ntmps101 ?_)
 rintro args ⟨x,hx,rfl⟩ hwf
 refine ⟨by simp,?_⟩
 clear hwf
 have hsn:=hx.2.2.2.1.1
 have hrd:=hx.2.2.2.2.2.2.2.2.2.1
 rw [Tryz.results101]
 repeat' first
  | (refine And.intro ?_ ?_)
  | (intro h;simp only [reduceCtorEq] at h;done)
  | (intro h;rw [h])
  | (intro h)
 all_goals first
  | exact Or.inr rfl
  | exact ⟨_,rds_w hx.2.2.2.2.2.2.2.2.2,rfl⟩
  | (show 0+x.sn.length≤maxLen;simp only [maxLen];omega)
  | (show (0+x.sn.length) * 8≤140737488355328;omega)
  | exact ⟨x,hx,rfl,True.intro⟩
theorem any71:AnyY Tryz.prog T 71 (fun m=>∃ a b:List (List D),((∀ y ∈ a,OpD y)∧(∀ y ∈ b,OpD y)∧a.length+b.length≤1000)∧m=[argS 31 a,argS 31 b]) (fun x:List (List D)=>.val false [.sl false 31 x]) (fun (m:List SV) (x:List (List D))=>(∀ y ∈ x,OpD y)∧x.length≤len2 m):=by
 obtain ⟨g99,k99,q99⟩:=any99
 obtain ⟨g100,k100,q100⟩:=any100
 obtain ⟨g101,k101,q101⟩:=any101
 refine AnyY.of (fun _=>[]) (fun _ _=>⟨all0,jcl _⟩) (fokA (fun _ (x:List (List D))=>.val false [.sl false 31 x]) (post:=fun m (x:List (List D))=>(∀ y ∈ x,OpD y)∧x.length≤len2 m) (env:=envL [(99, { pre:=fun a=>∃ (l:List (List D)) (r:List D),l.length≤1048576∧a=[argS 31 l,argG cO r],res:=fun a=>(fun x:Int=>.val false [.i .i64 x]) (g99 a) }),(100, { pre:=fun a=>∃ x y:List D,a=[argG cO x,argG cO y],res:=fun a=>(fun x:Bool=>.val false [.b x]) (g100 a) }),(101, { pre:=fun a=>∃ x:OLs,x.ok∧a=[argG cO x.row],res:=fun a=>(fun x:OLs=>.val true [.i .i64 x.a0,.i .i64 x.a1,.i .i64 x.a2,.sl true 3 x.sn,.i .i64 x.e.k,.i .i64 x.e.at_,.i .i64 x.e.c.id,.i .i64 x.e.c.ve,.i .i64 x.e.c.k,.s x.e.c.nm,.s x.e.c.cd,.i .i64 x.e.c.n,.s x.fr,.s x.tt,.i .i64 x.ce,.i .i64 x.ve,.sl true 59 x.rd]) (g101 a) })]) (N:=65) tabT (aa k99 (aa k100 (aa k101 ae))) mixed Tryz.func71 rfl Tryz.call71 Tryz.ntmps71 ?_)
 rintro args ⟨a,b,⟨ha,hb,hn⟩,rfl⟩ hwf
 refine ⟨by simp,?_⟩
 clear hwf
 have hab:(a++b).length=a.length+b.length:=jcm
 have hO:∀ y ∈ a++b,OpD y:=lj ha hb
 have hlm:(a++b).length≤1048576:=by omega
 rw [Tryz.results71]
 repeat' first
  | (refine And.intro ?_ ?_)
  | (intro h;simp only [reduceCtorEq] at h;done)
  | (intro h;rw [h])
  | (intro h)
 all_goals first
  | (show 0+a.length≤maxLen;simp only [maxLen];omega)
  | (show (0+a.length) * 200≤140737488355328;omega)
  | (show a.length+b.length≤maxLen;simp only [maxLen];omega)
  | (show (a.length+b.length) * 200≤140737488355328;omega)
  | skip
 refine am (Q:=_) [5,6,7] [] (fun n st=>∃ (i:Nat) (ob:Bool) (o:List (List D)),st=([.val false [.sl ob 31 o],.val false [.sl true 31 (a++b)],.val false [.i .i64 (i:Int)]],[])∧i≤(a++b).length∧(∀ y ∈ o,OpD y)∧o.length≤i∧n=(a++b).length - i) ?_ ?_
 · exact ⟨rfl,(a++b).length,0,_,_,rfl,jcl _,all0,jcA _,rfl⟩
 rintro n st ⟨i,ob,o,rfl,hle,hA,hol,rfl⟩
 cases ob
 all_goals repeat' first
  | (refine And.intro ?_ ?_)
  | (intro h;simp only [reduceCtorEq] at h;done)
  | (intro h;rw [h])
  | (intro h)
 all_goals first
  | exact Or.inr rfl
  | with_reducible exact jcy _
  | (have hi:i < (a++b).length:=ltN' (by with_reducible assumption)
     first
      | with_reducible exact jck (by with_reducible assumption)
      | (show (Int.toNat (i:Int)) < _;rw [jcG];exact hi)
      | exact ⟨_,_,(show o.length≤1048576 by omega),rfl⟩
      | (show aV _ _;rfl)
      | (refine ⟨(a++b).length - (i+1),by omega,i+1,_,_,congrArg (fun z:Int=>(([.val false [.sl _ 31 _],.val false [.sl true 31 (a++b)],.val false [.i .i64 z]],[]):Snap)) (d9 hi hlm),by omega,hA,by omega,rfl⟩))
  | exact ⟨_,⟨hA,(show o.length≤len2 [argS 31 a,argS 31 b] from (show o.length≤a.length+b.length by omega))⟩,rfl,True.intro⟩
  | skip
 all_goals have hi:i < (a++b).length:=by first|exact ltN' (by with_reducible assumption)
 all_goals refine am (Q:=_) [5,6,7,8] [] (fun n2 st2=>∃ (k:Nat) (ob2:Bool),st2=([.val false [.sl ob2 31 o],.val false [.sl true 31 (a++b)],.val false [.i .i64 (i:Int)],.val false [.i .i64 (k:Int)]],[])∧k≤o.length∧n2=o.length - k) ?_ ?_
 all_goals first
  | exact ⟨rfl,o.length,0,_,rfl,jcl _,rfl⟩
  | skip
 all_goals rintro n2 st2 ⟨k,ob2,rfl,kle,rfl⟩
 all_goals cases ob2
 all_goals repeat' first
  | (refine And.intro ?_ ?_)
  | (intro h;simp only [reduceCtorEq] at h;done)
  | (intro h;rw [h])
  | (intro h)
 all_goals first
  | (show av _=true;kernel_rfl)
  | (show aX _ _=true;kernel_rfl)
  | with_reducible exact jcy _
  | (show (Int.toNat (i:Int)) < _;rw [jcG];exact hi)
  | (show (i:Int) < (((a++b).length:Nat):Int);omega)
  | (show (k:Int) < ((o.length:Nat):Int);have hk:k < o.length:=ltN' (by with_reducible assumption);omega)
  | (show (Int.toNat (k:Int)) < o.length;have hk:k < o.length:=ltN' (by with_reducible assumption);rw [jcG];exact hk)
  | exact ⟨_,_,rfl⟩
  | (show aV _ _;exact rfl)
  | exact jc5 _
  | (show (k:Int)≤((o.length:Nat):Int);omega)
  | ((with_reducible show (_:Nat)≤_);simp only [jcm,jcZ,jcD,jcz,jcI,maxLen,jcG];omega)
  | (obtain ⟨x,hx,hok⟩:=OpD.at hO (show Int.toNat (i:Int) < _ by rw [jcG];exact hi)
     exact ⟨x,hok,congrArg (fun r=>[argG cO r]) hx⟩)
  | (have hk:k < o.length:=ltN' (by with_reducible assumption)
     exact ⟨o.length - (k+1),by omega,k+1,_,congrArg (fun z:Int=>(([.val false [.sl _ 31 o],.val false [.sl true 31 (a++b)],.val false [.i .i64 (i:Int)],.val false [.i .i64 z]],[]):Snap)) (d9 hk (by omega)),by omega,rfl⟩)
  | (refine ⟨(a++b).length - (i+1),by omega,i+1,_,_,congrArg (fun z:Int=>(([.val false [.sl _ 31 _],.val false [.sl true 31 (a++b)],.val false [.i .i64 z]],[]):Snap)) (d9 hi hlm),by omega,?_,?_,rfl⟩
     · exact lj (lj (lj all0 (uD (uB hA _) _)) (aR all0 ⟨_,rfl,q101 _⟩)) (uD (uB hA _) _)
     · simp only [jcm,jcZ,jcD,jcz,jcI,jcG];omega)
def spNV:FSpec where
 pre args:=∃ n:Int,args=[.val false [.i .i64 n]]
 res args:=match args with
  | [.val _ [.i _ n]]=>.val true [.i .i64 1,.i .i64 n,.i .i64 0,.s ⟨#[]⟩,.sl true 57 [],.sl true 9 [],.sl true 101 []]
  | _=>.none
theorem okNV:FOk Tryz.prog T 98 spNV:=by
 refine fok (env:=envL []) (N:=5) tabT ae mixed Tryz.func98 rfl Tryz.call98 Tryz.ntmps98 ?_
 rintro args ⟨n,rfl⟩ hwf
 refine ⟨by simp,?_⟩
 clear hwf
 rw [Tryz.results98]
 repeat' first
  | (refine And.intro ?_ ?_)
  | (intro h;simp only [reduceCtorEq] at h;done)
  | (intro h;rw [h])
  | (intro h)
 all_goals first
  | exact True.intro
  | exact Or.inr rfl
  | exact rfl
structure RDs where
 k:Int
 n:Int
 t:Int
 s:ByteArray
instance:Inhabited RDs:=⟨⟨0,0,0,ByteArray.empty⟩⟩
theorem any97:AnyD Tryz.prog T 97 5 (fun m=>m=[]) (fun x:RDs=>.val true [.i .i64 x.k,.i .i64 x.n,.i .i64 x.t,.s x.s,.i .i64 0,.i .i64 0,.i .i64 0,.s ⟨#[]⟩,.sl true 57 [],.sl true 9 [],.sl true 101 []]) (fun (m:List SV) (x:RDs)=>inK .i64 x.k∧inK .i64 x.n∧inK .i64 x.t∧x.s.size≤8):=by
 refine AnyD.of (fun _=>⟨0,0,0,⟨#[]⟩⟩) (fun _ _=>⟨kk0,kk0,kk0,jcl _⟩) (dJ (α:=RDs × Int × Int) (fun _ z=>(fun x:RDs=>.val true [.i .i64 x.k,.i .i64 x.n,.i .i64 x.t,.s x.s,.i .i64 0,.i .i64 0,.i .i64 0,.s ⟨#[]⟩,.sl true 57 [],.sl true 9 [],.sl true 101 []]) z.1) (fun a z=>curU 5 a z.2.1 z.2.2) (post:=fun a z=>bi (rowsOf a) z.2.1∧(fun (m:List SV) (x:RDs)=>inK .i64 x.k∧inK .i64 x.n∧inK .i64 x.t∧x.s.size≤8) a.tail z.1) (env:=envL [(35,(bF 5)),(66,(ed 5 9))]) (N:=14) tabT (aa ok35 (aa ok66 ae)) mixed Tryz.func97 rfl Tryz.call97 Tryz.ntmps97 ?_)
 rintro cs args ⟨rows,i,h0,more,ok,hp,he⟩ hwf
 obtain ⟨rfl,rfl⟩:cs=curC 5 rows i h0∧args=more:=by simpa only [jcK,SV.tup.injEq,jcO,true_and,and_true] using he
 obtain rfl:=hp
 refine ⟨by simp,?_⟩
 clear he hwf
 rw [Tryz.results97]
 repeat' first
  | (refine And.intro ?_ ?_)
  | (intro h;simp only [reduceCtorEq] at h;done)
  | (intro h;rw [h])
  | (intro h)
 all_goals first
  | exact Or.inr rfl
  | (show List.length _=_;rfl)
  | refine ⟨_,_,_,_,?_,⟨by decide,by decide⟩,rfl⟩
  | (refine ⟨(⟨_,_,_,_⟩,_,_),⟨?_,?_⟩,rfl,rfl,True.intro⟩;rotate_left;focus (exact ⟨aW _ _,ar (ao ⟨by decide,by decide⟩),ar (ao ⟨by decide,by decide⟩),af (P:=fun t=>t.size≤8) (jcl _) (by intro r hr;simp only [az,jct,jcq,jcs,jco,or_false] at hr;rcases hr with rfl|rfl|rfl|rfl <;> decide) _⟩))
 all_goals repeat (first|exact ok|exact ok1|exact ok2|refine aj ?_)
theorem any70:AnyD Tryz.prog T 70 5 (fun m=>m=[]) (fun x:List (List D)=>.val false [.sl true 59 x]) (fun (m:List SV) (x:List (List D))=>x.length≤8∧∀ r ∈ x,RdD r):=by
 obtain ⟨g97,k97,q97⟩:=any97
 refine AnyD.of (fun _=>[]) (fun _ _=>⟨jcl _,all0⟩) (dJ (α:=List (List D) × Int × Int) (fun _ z=>(fun x:List (List D)=>.val false [.sl true 59 x]) z.1) (fun a z=>curU 5 a z.2.1 z.2.2) (post:=fun a z=>bi (rowsOf a) z.2.1∧(fun (m:List SV) (x:List (List D))=>x.length≤8∧∀ r ∈ x,RdD r) a.tail z.1) (env:=envL [(35,(bF 5)),(97,spD 5 (fun m=>m=[]) (fun x:RDs=>.val true [.i .i64 x.k,.i .i64 x.n,.i .i64 x.t,.s x.s,.i .i64 0,.i .i64 0,.i .i64 0,.s ⟨#[]⟩,.sl true 57 [],.sl true 9 [],.sl true 101 []]) g97),(98,spNV)]) (N:=34) tabT (aa ok35 (aa k97 (aa okNV ae))) mixed Tryz.func70 rfl Tryz.call70 Tryz.ntmps70 ?_)
 rintro cs args ⟨rows,i,h0,more,ok,hp,he⟩ hwf
 obtain ⟨rfl,rfl⟩:cs=curC 5 rows i h0∧args=more:=by simpa only [jcK,SV.tup.injEq,jcO,true_and,and_true] using he
 obtain rfl:=hp
 refine ⟨by simp,?_⟩
 clear he hwf
 rw [Tryz.results70]
 repeat' first
  | (refine And.intro ?_ ?_)
  | (intro h;simp only [reduceCtorEq] at h;done)
  | (intro h;rw [h])
  | (intro h)
 all_goals first
  | (show List.length _=_;rfl)
  | refine ⟨_,_,_,_,?_,⟨by decide,by decide⟩,rfl⟩
  | skip
 all_goals try ((with_reducible show bi _ _);repeat (first|exact ok|exact ok1|exact ok2|refine aj ?_|refine (q97 _ _ _ _ ?_ rfl).1))
 refine am (Q:=_) [0,3,4,5] [34] (fun n s=>∃ (z m:Int) (o:List (List D)) (I H:Int),s=([.ptr 34 0 0,.val false [.sl true 59 o],.val false [.i .i64 m],.val false [.i .i64 z]],[(0,[.val false [.sl false 5 rows],.val false [.i .i64 I],.val false [.i .i64 H]])])∧0≤m∧m≤3∧bi rows I∧(∀ r ∈ o,RdD r)∧o.length=z.toNat∧0≤z∧z≤m∧n=m.toNat - z.toNat) ?_ ?_
 · exact ⟨rfl,_,0,_,_,_,_,rfl,(aO (rows:=rows) (i:=i) (h:=h0) (n:=4) ⟨by decide,by decide⟩).1,jdO (aO (rows:=rows) (i:=i) (h:=h0) (n:=4) ⟨by decide,by decide⟩).2,aj ok,all0,rfl,by decide,(aO (rows:=rows) (i:=i) (h:=h0) (n:=4) ⟨by decide,by decide⟩).1,rfl⟩
 rintro n s ⟨z,m,o,I,H,rfl,hm0,hm1,ok1,hA,hol,h1,h2,h3⟩
 repeat' first
  | (refine And.intro ?_ ?_)
  | (intro h;simp only [reduceCtorEq] at h;done)
  | (intro h;rw [h])
  | (intro h)
 all_goals first
  | exact Or.inr rfl
  | (show aV _ _;rfl)
  | (show List.length _=_;rfl)
  | exact ⟨_,_,_,_,(by repeat (first|exact ok|exact ok1|exact ok2|refine aj ?_|refine (q97 _ _ _ _ ?_ rfl).1)),rfl,rfl⟩
  | exact ⟨_,rfl⟩
  | (show o.length+1≤maxLen;simp only [maxLen];omega)
  | (show (o.length+1) * 152≤140737488355328;omega)
  | (have hz:z < m:=jck ‹decide (z < m)=true›
     refine ⟨m.toNat - (z+1).toNat,by omega,z+1,m,_,_,_,congrArg (fun q=>(([.ptr 34 0 0,.val false [.sl true 59 _],.val false [.i .i64 _],.val false [.i .i64 q]],[(0,[.val false [.sl false 5 rows],.val false [.i .i64 _],.val false [.i .i64 _]])]):Snap)) (aB (by omega) (by omega)),hm0,hm1,(by repeat (first|exact ok|exact ok1|exact ok2|refine aj ?_|refine (q97 _ _ _ _ ?_ rfl).1)),?_,?_,by omega,by omega,rfl⟩
     · refine aR hA ⟨_,_,_,_,_,rfl,(q97 _ _ _ _ (by repeat (first|exact ok|exact ok1|exact ok2|refine aj ?_|refine (q97 _ _ _ _ ?_ rfl).1)) rfl).2.1,?_,(q97 _ _ _ _ (by repeat (first|exact ok|exact ok1|exact ok2|refine aj ?_|refine (q97 _ _ _ _ ?_ rfl).1)) rfl).2.2.2.1,?_,aW _ _⟩
       · first|exact kk0|exact (q97 _ _ _ _ (by repeat (first|exact ok|exact ok1|exact ok2|refine aj ?_|refine (q97 _ _ _ _ ?_ rfl).1)) rfl).2.2.1
       · first|exact jcl _|exact (q97 _ _ _ _ (by repeat (first|exact ok|exact ok1|exact ok2|refine aj ?_|refine (q97 _ _ _ _ ?_ rfl).1)) rfl).2.2.2.2
     · rw [jcm,hol];show z.toNat+1=_;omega)
  | (refine ⟨(_,_,_),⟨ok1,?_⟩,rfl,rfl,True.intro⟩
     exact ⟨(show o.length≤8 by omega),hA⟩)
theorem any33:AnyD Tryz.prog T 33 5 (fun m=>∃ (l:List (List D)) (b:Int),(l.length≤1048576∧inK .i64 b)∧m=[argS 31 l,.val false [.i .i64 b]]) (fun x:OLs=>.val true [.i .i64 x.a0,.i .i64 x.a1,.i .i64 x.a2,.sl true 3 x.sn,.i .i64 x.e.k,.i .i64 x.e.at_,.i .i64 x.e.c.id,.i .i64 x.e.c.ve,.i .i64 x.e.c.k,.s x.e.c.nm,.s x.e.c.cd,.i .i64 x.e.c.n,.s x.fr,.s x.tt,.i .i64 x.ce,.i .i64 x.ve,.sl true 59 x.rd]) (fun (m:List SV) (x:OLs)=>x.ok∧x.sn.length=3):=by
 obtain ⟨g67,k67,q67⟩:=any67
 obtain ⟨g69,k69,q69⟩:=any69
 obtain ⟨g68,k68,q68⟩:=any68
 obtain ⟨g70,k70,q70⟩:=any70
 refine AnyD.of (fun _=>⟨0,0,0,[[.i 0],[.i 0],[.i 0]],⟨0,0,⟨0,0,0,⟨#[]⟩,⟨#[]⟩,0⟩⟩,⟨#[]⟩,⟨#[]⟩,0,0,[]⟩) (fun _ _=>⟨⟨kk0,kk0,kk0,⟨by decide,aR (l:=[_,_]) (aR (l:=[_]) (all1 ⟨0,rfl,kk0⟩) ⟨0,rfl,kk0⟩) ⟨0,rfl,kk0⟩⟩,⟨kk0,kk0,kk0,kk0,kk0,jcl _,jcl _,kk0⟩,jcl _,jcl _,kk0,kk0,jcl _,all0⟩,rfl⟩) (dJ (α:=OLs × Int × Int) (fun _ z=>(fun x:OLs=>.val true [.i .i64 x.a0,.i .i64 x.a1,.i .i64 x.a2,.sl true 3 x.sn,.i .i64 x.e.k,.i .i64 x.e.at_,.i .i64 x.e.c.id,.i .i64 x.e.c.ve,.i .i64 x.e.c.k,.s x.e.c.nm,.s x.e.c.cd,.i .i64 x.e.c.n,.s x.fr,.s x.tt,.i .i64 x.ce,.i .i64 x.ve,.sl true 59 x.rd]) z.1) (fun a z=>curU 5 a z.2.1 z.2.2) (post:=fun a z=>bi (rowsOf a) z.2.1∧(fun (m:List SV) (x:OLs)=>x.ok∧x.sn.length=3) a.tail z.1) (env:=envL [(67, { pre:=fun a=>∃ l:List (List D),l.length≤1048576∧a=[argS 31 l],res:=fun a=>(fun x:Int=>.val false [.i .i64 x]) (g67 a) }),(35,(bF 5)),(68,spD 5 (fun m=>m=[]) (fun x:EDs=>.val true [.i .i64 x.k,.i .i64 x.at_,.i .i64 x.c.id,.i .i64 x.c.ve,.i .i64 x.c.k,.s x.c.nm,.s x.c.cd,.i .i64 x.c.n]) g68),(69, { pre:=fun a=>∃ (l:List (List D)) (b:Int),l.length≤1048576∧a=[argS 31 l,.val false [.i .i64 b]],res:=fun a=>(fun x:Int=>.val false [.i .i64 x]) (g69 a) }),(66,(ed 5 9)),(70,spD 5 (fun m=>m=[]) (fun x:List (List D)=>.val false [.sl true 59 x]) g70)]) (N:=64) tabT (aa k67 (aa ok35 (aa k68 (aa k69 (aa ok66 (aa k70 ae)))))) mixed Tryz.func33 rfl Tryz.call33 Tryz.ntmps33 ?_)
 rintro cs args ⟨rows,i,h0,more,ok,hp,he⟩ hwf
 obtain ⟨rfl,rfl⟩:cs=curC 5 rows i h0∧args=more:=by simpa only [jcK,SV.tup.injEq,jcO,true_and,and_true] using he
 obtain ⟨l,b,⟨hlm,hb⟩,rfl⟩:=hp
 refine ⟨by simp,?_⟩
 clear he hwf
 rw [Tryz.results33]
 repeat' first
  | (refine And.intro ?_ ?_)
  | (intro h;simp only [reduceCtorEq] at h;done)
  | (intro h;rw [h])
  | (intro h)
 all_goals first
  | (show List.length _=_;rfl)
  | refine ⟨_,_,_,_,?_,⟨by decide,by decide⟩,rfl⟩
  | refine ⟨_,_,_,_,?_,rfl,rfl⟩
  | exact ⟨_,hlm,rfl⟩
  | skip
 all_goals try ((with_reducible show bi _ _);repeat (first|exact ok|exact ok1|exact ok2|refine aj ?_|refine (q68 _ _ _ _ ?_ rfl).1|refine (q70 _ _ _ _ ?_ rfl).1))
 refine am (Q:=_) [0,1,2,6,7,8] [64,6,7] (fun n s=>∃ (z x0:Int) (y:EDs) (sn:List (List D)) (I H:Int),s=([.ptr 64 0 0,argS 31 l,.val false [.i .i64 b],.ptr 6 1 0,.ptr 7 1 0,.val false [.i .i64 z]],[(0,[.val false [.sl false 5 rows],.val false [.i .i64 I],.val false [.i .i64 H]]),(1,[.val false [.i .i64 0],.val false [.i .i64 0],.val false [.i .i64 0],.val false [.sl true 3 []],.val false [.i .i64 0],.val false [.i .i64 0],.val false [.i .i64 0],.val false [.i .i64 0],.val false [.i .i64 0],.val false [.s ByteArray.empty],.val false [.s ByteArray.empty],.val false [.i .i64 0],.val false [.s ByteArray.empty],.val false [.s ByteArray.empty],.val false [.i .i64 0],.val false [.i .i64 0],.val false [.sl true 59 []]]),(1,[.val false [.i .i64 x0],.val false [.i .i64 b],.val false [.i .i64 1],.val false [.sl true 3 sn],.val false [.i .i64 y.k],.val false [.i .i64 y.at_],.val false [.i .i64 y.c.id],.val false [.i .i64 y.c.ve],.val false [.i .i64 y.c.k],.val false [.s y.c.nm],.val false [.s y.c.cd],.val false [.i .i64 y.c.n],.val false [.s ByteArray.empty],.val false [.s ByteArray.empty],.val false [.i .i64 0],.val false [.i .i64 0],.val false [.sl true 59 []]])])∧inK .i64 x0∧y.ok∧bi rows I∧(∀ r ∈ sn,IntD r)∧sn.length=z.toNat∧0≤z∧z≤3∧n=3 - z.toNat) ?_ ?_
 · exact ⟨rfl,_,0,_,⟨_,_,⟨_,_,_,_,_,_⟩⟩,_,_,_,rfl,aW _ _,(q68 _ _ _ _ (aj ok) rfl).2,(q68 _ _ _ _ (aj ok) rfl).1,all0,rfl,by decide,by decide,rfl⟩
 rintro n s ⟨z,x0,y,sn,I,H,rfl,hx0,hy,ok1,hA,hol,h1,h2,h3⟩
 repeat' first
  | (refine And.intro ?_ ?_)
  | (intro h;simp only [reduceCtorEq] at h;done)
  | (intro h;rw [h])
  | (intro h)
 all_goals first
  | (show av _=true;kernel_rfl)
  | (show aX _ _=true;kernel_rfl)
  | exact Or.inr rfl
  | (show aV _ _;rfl)
  | (show List.length _=_;rfl)
  | exact ⟨_,_,hlm,rfl⟩
  | exact ⟨_,_,_,_,(by repeat (first|exact ok|exact ok1|exact ok2|refine aj ?_|refine (q68 _ _ _ _ ?_ rfl).1|refine (q70 _ _ _ _ ?_ rfl).1)),rfl,rfl⟩
  | exact ⟨_,_,_,_,(by repeat (first|exact ok|exact ok1|exact ok2|refine aj ?_|refine (q68 _ _ _ _ ?_ rfl).1|refine (q70 _ _ _ _ ?_ rfl).1)),⟨by decide,by decide⟩,rfl⟩
  | (show sn.length+1≤maxLen;simp only [maxLen];omega)
  | (show (sn.length+1) * 8≤140737488355328;omega)
  | (have hz:z < 3:=jck ‹decide (z < 3)=true›
     refine ⟨3 - (z+1).toNat,by omega,z+1,x0,y,_,_,_,congrArg (fun q=>(([.ptr 64 0 0,argS 31 l,.val false [.i .i64 b],.ptr 6 1 0,.ptr 7 1 0,.val false [.i .i64 q]],[(0,[.val false [.sl false 5 rows],.val false [.i .i64 _],.val false [.i .i64 _]]),(1,[.val false [.i .i64 0],.val false [.i .i64 0],.val false [.i .i64 0],.val false [.sl true 3 []],.val false [.i .i64 0],.val false [.i .i64 0],.val false [.i .i64 0],.val false [.i .i64 0],.val false [.i .i64 0],.val false [.s ByteArray.empty],.val false [.s ByteArray.empty],.val false [.i .i64 0],.val false [.s ByteArray.empty],.val false [.s ByteArray.empty],.val false [.i .i64 0],.val false [.i .i64 0],.val false [.sl true 59 []]]),(1,[.val false [.i .i64 x0],.val false [.i .i64 b],.val false [.i .i64 1],.val false [.sl true 3 _],.val false [.i .i64 y.k],.val false [.i .i64 y.at_],.val false [.i .i64 y.c.id],.val false [.i .i64 y.c.ve],.val false [.i .i64 y.c.k],.val false [.s y.c.nm],.val false [.s y.c.cd],.val false [.i .i64 y.c.n],.val false [.s ByteArray.empty],.val false [.s ByteArray.empty],.val false [.i .i64 0],.val false [.i .i64 0],.val false [.sl true 59 []]])]):Snap)) (aB (by omega) (by omega)),hx0,hy,ok1,aR hA ⟨_,rfl,q69 _⟩,?_,by omega,by omega,rfl⟩
     rw [jcm,hol];show z.toNat+1=_;omega)
  | (refine ⟨(⟨_,_,_,_,⟨_,_,⟨_,_,_,_,_,_⟩⟩,_,_,_,_,_⟩,_,_),⟨(by repeat (first|exact ok|exact ok1|exact ok2|refine aj ?_|refine (q68 _ _ _ _ ?_ rfl).1|refine (q70 _ _ _ _ ?_ rfl).1)),?_⟩,rfl,rfl,True.intro⟩
     have hz:¬ z < 3:=jcv ‹decide (z < 3)=false›
     refine ⟨⟨hx0,hb,?_,⟨(show sn.length≤8 by omega),hA⟩,?_,?_,?_,?_,?_,?_⟩,(show sn.length=3 by omega)⟩
     · first|exact kk1|exact kk2|exact kk3
     · first|exact hy|exact ⟨kk0,kk0,kk0,kk0,kk0,jcl _,jcl _,kk0⟩
     · first|exact jcl _|exact af (P:=fun t=>t.size≤8) (jcl _) (by intro r hr;simp only [az,jct,jcq,jcs,jco,or_false] at hr;rcases hr with rfl|rfl|rfl <;> decide) _
     · first|exact jcl _|exact af (P:=fun t=>t.size≤8) (jcl _) (by intro r hr;simp only [az,jct,jcq,jcs,jco,or_false] at hr;rcases hr with rfl|rfl|rfl <;> decide) _
     · first|exact kk0|exact aW _ _
     · first|exact kk0|exact aW _ _
     · first|exact ⟨jcl _,all0⟩|exact (q70 _ _ _ _ (by repeat (first|exact ok|exact ok1|exact ok2|refine aj ?_|refine (q68 _ _ _ _ ?_ rfl).1|refine (q70 _ _ _ _ ?_ rfl).1)) rfl).2)
theorem any34:AnyD Tryz.prog T 34 5 (fun m=>∃ w:Int,(0≤w∧w≤10)∧m=[.val false [.i .i64 w]]) (fun x:List (List D)=>.val false [.sl false 31 x]) (fun (m:List SV) (x:List (List D))=>(∀ y ∈ x,OpD y)∧x.length≤10):=by
 obtain ⟨g71,k71,q71⟩:=any71
 obtain ⟨g33,k33,q33⟩:=any33
 refine AnyD.of (fun _=>[]) (fun _ _=>⟨all0,jcl _⟩) (dJ (α:=List (List D) × Int × Int) (fun _ z=>(fun x:List (List D)=>.val false [.sl false 31 x]) z.1) (fun a z=>curU 5 a z.2.1 z.2.2) (post:=fun a z=>bi (rowsOf a) z.2.1∧(fun (m:List SV) (x:List (List D))=>(∀ y ∈ x,OpD y)∧x.length≤10) a.tail z.1) (env:=envL [(35,(bF 5)),(45,(jJ 5)),(33,spD 5 (fun m=>∃ (l:List (List D)) (b:Int),(l.length≤1048576∧inK .i64 b)∧m=[argS 31 l,.val false [.i .i64 b]]) (fun x:OLs=>.val true [.i .i64 x.a0,.i .i64 x.a1,.i .i64 x.a2,.sl true 3 x.sn,.i .i64 x.e.k,.i .i64 x.e.at_,.i .i64 x.e.c.id,.i .i64 x.e.c.ve,.i .i64 x.e.c.k,.s x.e.c.nm,.s x.e.c.cd,.i .i64 x.e.c.n,.s x.fr,.s x.tt,.i .i64 x.ce,.i .i64 x.ve,.sl true 59 x.rd]) g33),(71, { pre:=fun m=>∃ a b:List (List D),((∀ y ∈ a,OpD y)∧(∀ y ∈ b,OpD y)∧a.length+b.length≤1000)∧m=[argS 31 a,argS 31 b],res:=fun a=>(fun x:List (List D)=>.val false [.sl false 31 x]) (g71 a) })]) (N:=40) tabT (aa ok35 (aa ok45 (aa k33 (aa k71 ae)))) mixed Tryz.func34 rfl Tryz.call34 Tryz.ntmps34 ?_)
 rintro cs args ⟨rows,i,h0,more,ok,hp,he⟩ hwf
 obtain ⟨rfl,rfl⟩:cs=curC 5 rows i h0∧args=more:=by simpa only [jcK,SV.tup.injEq,jcO,true_and,and_true] using he
 obtain ⟨w,hw,rfl⟩:=hp
 refine ⟨by simp,?_⟩
 clear he hwf
 have hw1:IntKind.i64.wrap (w+1)=w+1:=aB (by omega) (by omega)
 rw [Tryz.results34]
 repeat' first
  | (refine And.intro ?_ ?_)
  | (intro h;simp only [reduceCtorEq] at h;done)
  | (intro h;rw [h])
  | (intro h)
 all_goals first
  | (show List.length _=_;rfl)
  | refine ⟨_,_,_,_,?_,(by rw [hw1];exact ⟨by omega,by omega⟩),rfl⟩
  | skip
 all_goals try ((with_reducible show bi _ _);repeat (first|exact ok|exact ok1|exact ok2|refine aj ?_|refine (q33 _ _ _ _ ?_ (by first|exact ⟨_,_,⟨by simp only [jcm,jcZ,jcD,jcI];omega,ar (ao ⟨by decide,by decide⟩)⟩,rfl⟩|exact ⟨_,_,⟨by omega,ar (ao ⟨by decide,by decide⟩)⟩,rfl⟩)).1))
 refine am (Q:=_) [0,1,5,6,7] [40] (fun n s=>∃ (ob:Bool) (o:List (List D)) (z m I H:Int),s=([.ptr 40 0 0,.val false [.i .i64 w],.val false [.sl ob 31 o],.val false [.i .i64 m],.val false [.i .i64 z]],[(0,[.val false [.sl false 5 rows],.val false [.i .i64 I],.val false [.i .i64 H]])])∧0≤m∧m≤w∧bi rows I∧(∀ y ∈ o,OpD y)∧o.length≤z.toNat∧0≤z∧z≤m∧n=m.toNat - z.toNat) ?_ ?_
 · exact ⟨rfl,_,_,_,0,_,_,_,rfl,(aO (rows:=rows) (i:=i) (h:=h0) (n:=IntKind.i64.wrap (w+1)) (by rw [hw1];omega)).1,(by have:=(aO (rows:=rows) (i:=i) (h:=h0) (n:=IntKind.i64.wrap (w+1)) (by rw [hw1];omega)).2;rw [hw1] at this ⊢;omega),aj ok,all0,jcA _,by decide,(aO (rows:=rows) (i:=i) (h:=h0) (n:=IntKind.i64.wrap (w+1)) (by rw [hw1];omega)).1,rfl⟩
 rintro n s ⟨ob,o,z,m,I,H,rfl,hm0,hm1,ok1,hA,hol,h1,h2,h3⟩
 have hol1:IntKind.i64.wrap ((o.length:Int)+1)=(o.length:Int)+1:=aB (by omega) (by omega)
 cases ob
 all_goals repeat' first
  | (refine And.intro ?_ ?_)
  | (intro h;simp only [reduceCtorEq] at h;done)
  | (intro h;rw [h])
  | (intro h)
 all_goals first
  | exact Or.inr rfl
  | (show aV _ _;rfl)
  | (show List.length _=_;rfl)
  | exact jc5 _
  | exact ⟨_,_,_,_,(by repeat (first|exact ok|exact ok1|exact ok2|refine aj ?_|refine (q33 _ _ _ _ ?_ (by first|exact ⟨_,_,⟨by simp only [jcm,jcZ,jcD,jcI];omega,ar (ao ⟨by decide,by decide⟩)⟩,rfl⟩|exact ⟨_,_,⟨by omega,ar (ao ⟨by decide,by decide⟩)⟩,rfl⟩)).1)),⟨by decide,by decide⟩,rfl⟩
  | exact ⟨_,_,_,_,(by repeat (first|exact ok|exact ok1|exact ok2|refine aj ?_|refine (q33 _ _ _ _ ?_ (by first|exact ⟨_,_,⟨by simp only [jcm,jcZ,jcD,jcI];omega,ar (ao ⟨by decide,by decide⟩)⟩,rfl⟩|exact ⟨_,_,⟨by omega,ar (ao ⟨by decide,by decide⟩)⟩,rfl⟩)).1)),(by rw [hol1];exact ⟨by omega,by omega⟩),rfl⟩
  | exact ⟨_,_,_,_,(by repeat (first|exact ok|exact ok1|exact ok2|refine aj ?_|refine (q33 _ _ _ _ ?_ (by first|exact ⟨_,_,⟨by simp only [jcm,jcZ,jcD,jcI];omega,ar (ao ⟨by decide,by decide⟩)⟩,rfl⟩|exact ⟨_,_,⟨by omega,ar (ao ⟨by decide,by decide⟩)⟩,rfl⟩)).1)),(by first|exact ⟨_,_,⟨by simp only [jcm,jcZ,jcD,jcI];omega,ar (ao ⟨by decide,by decide⟩)⟩,rfl⟩|exact ⟨_,_,⟨by omega,ar (ao ⟨by decide,by decide⟩)⟩,rfl⟩),rfl⟩
  | exact ⟨_,_,⟨hA,aR all0 ⟨_,rfl,(q33 _ _ _ _ (by repeat (first|exact ok|exact ok1|exact ok2|refine aj ?_|refine (q33 _ _ _ _ ?_ (by first|exact ⟨_,_,⟨by simp only [jcm,jcZ,jcD,jcI];omega,ar (ao ⟨by decide,by decide⟩)⟩,rfl⟩|exact ⟨_,_,⟨by omega,ar (ao ⟨by decide,by decide⟩)⟩,rfl⟩)).1)) (by first|exact ⟨_,_,⟨by simp only [jcm,jcZ,jcD,jcI];omega,ar (ao ⟨by decide,by decide⟩)⟩,rfl⟩|exact ⟨_,_,⟨by omega,ar (ao ⟨by decide,by decide⟩)⟩,rfl⟩)).2.1⟩,(by show o.length+1≤1000;omega)⟩,rfl⟩
  | exact (aO (by rw [hol1];exact ⟨by omega,by omega⟩)).1
  | exact jdO (Int.lt_of_lt_of_le (aO (by rw [hol1];exact ⟨by omega,by omega⟩)).2 (Int.le_of_eq hol1))
  | (refine ⟨(_,_,_),⟨ok1,?_⟩,rfl,rfl,True.intro⟩
     exact ⟨hA,(show o.length≤10 by omega)⟩)
  | (have hz:z < m:=jck ‹decide (z < m)=true›
     refine ⟨m.toNat - (z+1).toNat,by omega,_,_,z+1,m,_,_,congrArg (fun q=>(([.ptr 40 0 0,.val false [.i .i64 w],.val false [.sl _ 31 _],.val false [.i .i64 _],.val false [.i .i64 q]],[(0,[.val false [.sl false 5 rows],.val false [.i .i64 _],.val false [.i .i64 _]])]):Snap)) (aB (by omega) (by omega)),hm0,hm1,(by repeat (first|exact ok|exact ok1|exact ok2|refine aj ?_|refine (q33 _ _ _ _ ?_ (by first|exact ⟨_,_,⟨by simp only [jcm,jcZ,jcD,jcI];omega,ar (ao ⟨by decide,by decide⟩)⟩,rfl⟩|exact ⟨_,_,⟨by omega,ar (ao ⟨by decide,by decide⟩)⟩,rfl⟩)).1)),(q71 _ ⟨_,_,⟨hA,aR all0 ⟨_,rfl,(q33 _ _ _ _ (by repeat (first|exact ok|exact ok1|exact ok2|refine aj ?_|refine (q33 _ _ _ _ ?_ (by first|exact ⟨_,_,⟨by simp only [jcm,jcZ,jcD,jcI];omega,ar (ao ⟨by decide,by decide⟩)⟩,rfl⟩|exact ⟨_,_,⟨by omega,ar (ao ⟨by decide,by decide⟩)⟩,rfl⟩)).1)) (by first|exact ⟨_,_,⟨by simp only [jcm,jcZ,jcD,jcI];omega,ar (ao ⟨by decide,by decide⟩)⟩,rfl⟩|exact ⟨_,_,⟨by omega,ar (ao ⟨by decide,by decide⟩)⟩,rfl⟩)).2.1⟩,(by show o.length+1≤1000;omega)⟩,rfl⟩).1,?_,by omega,by omega,rfl⟩
     refine jcr (q71 _ ⟨_,_,⟨hA,aR all0 ⟨_,rfl,(q33 _ _ _ _ (by repeat (first|exact ok|exact ok1|exact ok2|refine aj ?_|refine (q33 _ _ _ _ ?_ (by first|exact ⟨_,_,⟨by simp only [jcm,jcZ,jcD,jcI];omega,ar (ao ⟨by decide,by decide⟩)⟩,rfl⟩|exact ⟨_,_,⟨by omega,ar (ao ⟨by decide,by decide⟩)⟩,rfl⟩)).1)) (by first|exact ⟨_,_,⟨by simp only [jcm,jcZ,jcD,jcI];omega,ar (ao ⟨by decide,by decide⟩)⟩,rfl⟩|exact ⟨_,_,⟨by omega,ar (ao ⟨by decide,by decide⟩)⟩,rfl⟩)).2.1⟩,(by show o.length+1≤1000;omega)⟩,rfl⟩).2 ?_
     show o.length+1≤_
     omega)
theorem OLs.b0 {Y:OLs} (h:Y.ok) {a:Int} (k:inK .i64 a):OLs.ok { Y with a0:=a }:=⟨k,h.2⟩
theorem OLs.b1 {Y:OLs} (h:Y.ok) {a:Int} (k:inK .i64 a):OLs.ok { Y with a1:=a }:=⟨h.1,k,h.2.2⟩
theorem OLs.b2 {Y:OLs} (h:Y.ok) {a:Int} (k:inK .i64 a):OLs.ok { Y with a2:=a }:=⟨h.1,h.2.1,k,h.2.2.2⟩
theorem OLs.b3 {Y:OLs} (h:Y.ok) {s:List (List D)} (k:s.length≤8∧∀ r ∈ s,IntD r):OLs.ok { Y with sn:=s }:=⟨h.1,h.2.1,h.2.2.1,k,h.2.2.2.2⟩
theorem OLs.b4 {Y:OLs} (h:Y.ok) {t:ByteArray} (k:t.size≤8):OLs.ok { Y with tt:=t }:=⟨h.1,h.2.1,h.2.2.1,h.2.2.2.1,h.2.2.2.2.1,h.2.2.2.2.2.1,k,h.2.2.2.2.2.2.2⟩
theorem any15:AnyD Tryz.prog T 15 5 (fun m=>m=[]) (fun x:OLs=>.val true [.i .i64 x.a0,.i .i64 x.a1,.i .i64 x.a2,.sl false 3 x.sn,.i .i64 x.e.k,.i .i64 x.e.at_,.i .i64 x.e.c.id,.i .i64 x.e.c.ve,.i .i64 x.e.c.k,.s x.e.c.nm,.s x.e.c.cd,.i .i64 x.e.c.n,.s x.fr,.s x.tt,.i .i64 x.ce,.i .i64 x.ve,.sl false 59 x.rd]) (fun (m:List SV) (x:OLs)=>x.ok):=by
 obtain ⟨g34,k34,q34⟩:=any34
 obtain ⟨g33,k33,q33⟩:=any33
 obtain ⟨g46,k46,q46⟩:=any46
 refine AnyD.of (fun _=>zOL) (fun _ _=>rg) (dJ (α:=OLs × Int × Int) (fun _ z=>(fun x:OLs=>.val true [.i .i64 x.a0,.i .i64 x.a1,.i .i64 x.a2,.sl false 3 x.sn,.i .i64 x.e.k,.i .i64 x.e.at_,.i .i64 x.e.c.id,.i .i64 x.e.c.ve,.i .i64 x.e.c.k,.s x.e.c.nm,.s x.e.c.cd,.i .i64 x.e.c.n,.s x.fr,.s x.tt,.i .i64 x.ce,.i .i64 x.ve,.sl false 59 x.rd]) z.1) (fun a z=>curU 5 a z.2.1 z.2.2) (post:=fun a z=>bi (rowsOf a) z.2.1∧(fun (m:List SV) (x:OLs)=>x.ok) a.tail z.1) (env:=envL [(34,spD 5 (fun m=>∃ w:Int,(0≤w∧w≤10)∧m=[.val false [.i .i64 w]]) (fun x:List (List D)=>.val false [.sl false 31 x]) g34),(35,(bF 5)),(33,spD 5 (fun m=>∃ (l:List (List D)) (b:Int),(l.length≤1048576∧inK .i64 b)∧m=[argS 31 l,.val false [.i .i64 b]]) (fun x:OLs=>.val true [.i .i64 x.a0,.i .i64 x.a1,.i .i64 x.a2,.sl true 3 x.sn,.i .i64 x.e.k,.i .i64 x.e.at_,.i .i64 x.e.c.id,.i .i64 x.e.c.ve,.i .i64 x.e.c.k,.s x.e.c.nm,.s x.e.c.cd,.i .i64 x.e.c.n,.s x.fr,.s x.tt,.i .i64 x.ce,.i .i64 x.ve,.sl true 59 x.rd]) g33),(46,spD 5 (fun m=>∃ l:List (List D),eh (l.length:Int)∧m=[argS 3 l]) (fun x:Int=>.val false [.i .i64 x]) g46)]) (N:=48) tabT (aa k34 (aa ok35 (aa k33 (aa k46 ae)))) mixed Tryz.func15 rfl Tryz.call15 Tryz.ntmps15 ?_)
 rintro cs args ⟨rows,i,h0,more,ok,hp,he⟩ hwf
 obtain ⟨rfl,rfl⟩:cs=curC 5 rows i h0∧args=more:=by simpa only [jcK,SV.tup.injEq,jcO,true_and,and_true] using he
 obtain rfl:=hp
 refine ⟨by simp,?_⟩
 clear he hwf
 rw [Tryz.results15]
 repeat' first
  | (refine And.intro ?_ ?_)
  | (intro h;simp only [reduceCtorEq] at h;done)
  | (intro h;rw [h])
  | (intro h)
 all_goals first
  | (show av _=true;kernel_rfl)
  | (show aX _ _=true;kernel_rfl)
  | exact Or.inr rfl
  | (show List.length _=_;rfl)
  | refine ⟨_,_,_,_,?_,⟨by decide,by decide⟩,rfl⟩
  | refine ⟨_,_,_,_,?_,⟨_,⟨by decide,by decide⟩,rfl⟩,rfl⟩
  | refine ⟨_,_,_,_,?_,⟨_,_,⟨jcr (q34 _ _ _ _ (by repeat (first|exact ok|exact ok1|exact ok2|refine aj ?_|refine (q34 _ _ _ _ ?_ ⟨_,⟨by decide,by decide⟩,rfl⟩).1|refine (q46 _ _ _ _ ?_ ⟨_,⟨by decide,by decide⟩,rfl⟩).1)) ⟨_,⟨by decide,by decide⟩,rfl⟩).2.2 (by decide),ar (ao ⟨by decide,by decide⟩)⟩,rfl⟩,rfl⟩
  | exact jc5 _
  | refine len3I (q33 _ _ _ _ ?_ ⟨_,_,⟨jcr (q34 _ _ _ _ ?_ ⟨_,⟨by decide,by decide⟩,rfl⟩).2.2 (by decide),ar (ao ⟨by decide,by decide⟩)⟩,rfl⟩).2.2
  | refine jbo (q33 _ _ _ _ ?_ ⟨_,_,⟨jcr (q34 _ _ _ _ ?_ ⟨_,⟨by decide,by decide⟩,rfl⟩).2.2 (by decide),ar (ao ⟨by decide,by decide⟩)⟩,rfl⟩).2.2
  | refine len3M (q33 _ _ _ _ ?_ ⟨_,_,⟨jcr (q34 _ _ _ _ ?_ ⟨_,⟨by decide,by decide⟩,rfl⟩).2.2 (by decide),ar (ao ⟨by decide,by decide⟩)⟩,rfl⟩).2.2
  | refine len3B (q33 _ _ _ _ ?_ ⟨_,_,⟨jcr (q34 _ _ _ _ ?_ ⟨_,⟨by decide,by decide⟩,rfl⟩).2.2 (by decide),ar (ao ⟨by decide,by decide⟩)⟩,rfl⟩).2.2
  | (refine ⟨(⟨(g46 _).1,_,_,_,⟨_,_,⟨_,_,_,_,_,_⟩⟩,_,_,_,_,_⟩,_,_),⟨?_,?_⟩,rfl,rfl,True.intro⟩;rotate_left;focus (refine OLs.b0 (q33 _ _ _ _ ?_ ⟨_,_,⟨jcr (q34 _ _ _ _ ?_ ⟨_,⟨by decide,by decide⟩,rfl⟩).2.2 (by decide),ar (ao ⟨by decide,by decide⟩)⟩,rfl⟩).2.1 ((q46 _ _ _ _ ?_ ⟨_,⟨by decide,by decide⟩,rfl⟩).2 (inK .i64) kk0 (by intro r hr;simp only [az,jct,jcq,jcs,jco,or_false] at hr;rcases hr with rfl|rfl|rfl <;> exact ⟨by decide,by decide⟩))))
  | (refine ⟨(⟨_,(g46 _).1,_,_,⟨_,_,⟨_,_,_,_,_,_⟩⟩,_,_,_,_,_⟩,_,_),⟨?_,?_⟩,rfl,rfl,True.intro⟩;rotate_left;focus (refine OLs.b1 (q33 _ _ _ _ ?_ ⟨_,_,⟨jcr (q34 _ _ _ _ ?_ ⟨_,⟨by decide,by decide⟩,rfl⟩).2.2 (by decide),ar (ao ⟨by decide,by decide⟩)⟩,rfl⟩).2.1 ((q46 _ _ _ _ ?_ ⟨_,⟨by decide,by decide⟩,rfl⟩).2 (inK .i64) kk0 (by intro r hr;simp only [az,jct,jcq,jcs,jco,or_false] at hr;rcases hr with rfl|rfl <;> exact ⟨by decide,by decide⟩))))
  | (refine ⟨(⟨_,_,_,_++_,⟨_,_,⟨_,_,_,_,_,_⟩⟩,_,_,_,_,_⟩,_,_),⟨?_,?_⟩,rfl,rfl,True.intro⟩;rotate_left;focus (refine OLs.b3 (q33 _ _ _ _ ?_ ⟨_,_,⟨jcr (q34 _ _ _ _ ?_ ⟨_,⟨by decide,by decide⟩,rfl⟩).2.2 (by decide),ar (ao ⟨by decide,by decide⟩)⟩,rfl⟩).2.1 ⟨jcr (len3L (q33 _ _ _ _ ?_ ⟨_,_,⟨jcr (q34 _ _ _ _ ?_ ⟨_,⟨by decide,by decide⟩,rfl⟩).2.2 (by decide),ar (ao ⟨by decide,by decide⟩)⟩,rfl⟩).2.2) (by decide),lj (q33 _ _ _ _ ?_ ⟨_,_,⟨jcr (q34 _ _ _ _ ?_ ⟨_,⟨by decide,by decide⟩,rfl⟩).2.2 (by decide),ar (ao ⟨by decide,by decide⟩)⟩,rfl⟩).2.1.2.2.2.1.2 (aR all0 ⟨0,rfl,kk0⟩)⟩))
  | (refine ⟨(⟨_,_,(dM _ _ _).tmod _,_,⟨_,_,⟨_,_,_,_,_,_⟩⟩,_,_,_,_,_⟩,_,_),⟨?_,?_⟩,rfl,rfl,True.intro⟩;rotate_left;focus (refine OLs.b2 (q33 _ _ _ _ ?_ ⟨_,_,⟨jcr (q34 _ _ _ _ ?_ ⟨_,⟨by decide,by decide⟩,rfl⟩).2.2 (by decide),ar (ao ⟨by decide,by decide⟩)⟩,rfl⟩).2.1 (ar (ao ⟨by decide,by decide⟩))))
  | (refine ⟨(⟨_,_,_,ba _ _ _ _,⟨_,_,⟨_,_,_,_,_,_⟩⟩,_,_,_,_,_⟩,_,_),⟨?_,?_⟩,rfl,rfl,True.intro⟩;rotate_left;focus (refine OLs.b3 (q33 _ _ _ _ ?_ ⟨_,_,⟨jcr (q34 _ _ _ _ ?_ ⟨_,⟨by decide,by decide⟩,rfl⟩).2.2 (by decide),ar (ao ⟨by decide,by decide⟩)⟩,rfl⟩).2.1 ⟨len3P (q33 _ _ _ _ ?_ ⟨_,_,⟨jcr (q34 _ _ _ _ ?_ ⟨_,⟨by decide,by decide⟩,rfl⟩).2.2 (by decide),ar (ao ⟨by decide,by decide⟩)⟩,rfl⟩).2.2,yY (q33 _ _ _ _ ?_ ⟨_,_,⟨jcr (q34 _ _ _ _ ?_ ⟨_,⟨by decide,by decide⟩,rfl⟩).2.2 (by decide),ar (ao ⟨by decide,by decide⟩)⟩,rfl⟩).2.1.2.2.2.1.2 (jbo (q33 _ _ _ _ ?_ ⟨_,_,⟨jcr (q34 _ _ _ _ ?_ ⟨_,⟨by decide,by decide⟩,rfl⟩).2.2 (by decide),ar (ao ⟨by decide,by decide⟩)⟩,rfl⟩).2.2) ((q46 _ _ _ _ ?_ ⟨_,⟨by decide,by decide⟩,rfl⟩).2 (inK .i64) kk0 (by intro r hr;simp only [az,jct,jcq,jcs,jco,or_false] at hr;rcases hr with rfl|rfl|rfl <;> exact ⟨by decide,by decide⟩))⟩))
  | (refine ⟨(⟨_,_,_,_,⟨_,_,⟨_,_,_,_,_,_⟩⟩,_,⟨#[121]⟩,_,_,_⟩,_,_),⟨?_,?_⟩,rfl,rfl,True.intro⟩;rotate_left;focus (refine OLs.b4 (q33 _ _ _ _ ?_ ⟨_,_,⟨jcr (q34 _ _ _ _ ?_ ⟨_,⟨by decide,by decide⟩,rfl⟩).2.2 (by decide),ar (ao ⟨by decide,by decide⟩)⟩,rfl⟩).2.1 (jdm rfl)))
  | (refine ⟨(⟨_,_,_,_,⟨_,_,⟨_,_,_,_,_,_⟩⟩,_,_,_,_,_⟩,ky _ _,kA _),⟨?_,?_⟩,rfl,rfl,True.intro⟩;rotate_left;focus (refine (q33 _ _ _ _ ?_ ⟨_,_,⟨jcr (q34 _ _ _ _ ?_ ⟨_,⟨by decide,by decide⟩,rfl⟩).2.2 (by decide),ar (ao ⟨by decide,by decide⟩)⟩,rfl⟩).2.1))
 all_goals repeat (first|exact ok|exact ok1|exact ok2|refine aj ?_|refine (q34 _ _ _ _ ?_ ⟨_,⟨by decide,by decide⟩,rfl⟩).1|refine (q33 _ _ _ _ ?_ ⟨_,_,⟨jcr (q34 _ _ _ _ (by repeat (first|exact ok|exact ok1|exact ok2|refine aj ?_|refine (q34 _ _ _ _ ?_ ⟨_,⟨by decide,by decide⟩,rfl⟩).1|refine (q46 _ _ _ _ ?_ ⟨_,⟨by decide,by decide⟩,rfl⟩).1)) ⟨_,⟨by decide,by decide⟩,rfl⟩).2.2 (by decide),ar (ao ⟨by decide,by decide⟩)⟩,rfl⟩).1|refine (q46 _ _ _ _ ?_ ⟨_,⟨by decide,by decide⟩,rfl⟩).1)
end Go.Proofs.YtcllpknipmcolaaGreatDoor.Ab
