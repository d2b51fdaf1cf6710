/- A part. -/
import Derived.Test.YtdkofgjbbdbglaaGreatDoorCJe
namespace Go.Proofs.YtdkofgjbbdbglaaGreatDoor.Ab
open Go.RowKit
set_option linter.all false
set_option maxRecDepth 100000
set_option maxHeartbeats 2000000
theorem any45:AnyX Tryz.prog T 45 (fun a=>∃ l:List (List D),l.length≤1048576∧a=[argS 33 l]) (fun x:Int=>.val false [.i .i64 x]) (fun x:Int=>True):=by
 refine AnyX.of (0) (True.intro) (fokA (fun _ (x:Int)=>.val false [.i .i64 x]) (post:=fun _ (x:Int)=>True) (env:=envL [(77,sa)]) (N:=19) tabT (aa xk77 ae) mixed Tryz.func45 rfl Tryz.call45 Tryz.ntmps45 ?_)
 rintro args ⟨l,hlm,rfl⟩ hwf
 refine ⟨by simp,?_⟩
 clear hwf
 rw [Tryz.results45]
 repeat' first
  | refine And.intro ?_ ?_
  | (intro h;simp only [reduceCtorEq] at h;done)
  | (intro h;rw [h])
  | intro h
 all_goals first
  | skip
 refine aj (Q:=_) [0,3,4] [] (fun n st=>∃ (i:Nat) (m:Int),st=([argS 33 l,.val false [.i .i64 m],.val false [.i .i64 (i:Int)]],[])∧i≤l.length∧n=l.length - i) ?_ ?_
 · exact ⟨rfl,l.length,0,_,rfl,jc7 _,rfl⟩
 rintro n st ⟨i,m,rfl,hle,rfl⟩
 repeat' first
  | refine And.intro ?_ ?_
  | (intro h;simp only [reduceCtorEq] at h;done)
  | (intro h;rw [h])
  | intro h
 all_goals first
  | exact Or.inr rfl
  | with_reducible exact jdk _
  | (have hi:i < l.length:=ltN' (by with_reducible assumption)
     first
      | with_reducible exact jc6 (by with_reducible assumption)
      | exact ⟨_,_,rfl⟩
      | (refine ⟨l.length - (i+1),by omega,i+1,_,congrArg (fun z:Int=>(([argS 33 l,.val false [.i .i64 _],.val false [.i .i64 z]],[]):Snap)) (dG hi hlm),by omega,  rfl⟩)
      | (show aX _ _;exact rfl))
  | exact ⟨_,True.intro,rfl,True.intro⟩
theorem any47:AnyX Tryz.prog T 47 (fun a=>∃ (l:List (List D)) (b:Int),l.length≤1048576∧a=[argS 33 l,.val false [.i .i64 b]]) (fun x:Int=>.val false [.i .i64 x]) (fun x:Int=>inK .i64 x):=by
 refine AnyX.of (0) (kk0) (fokA (fun _ (x:Int)=>.val false [.i .i64 x]) (post:=fun _ (x:Int)=>inK .i64 x) (env:=envL []) (N:=23) tabT ae mixed Tryz.func47 rfl Tryz.call47 Tryz.ntmps47 ?_)
 rintro args ⟨l,b,hlm,rfl⟩ hwf
 refine ⟨by simp,?_⟩
 clear hwf
 rw [Tryz.results47]
 repeat' first
  | refine And.intro ?_ ?_
  | (intro h;simp only [reduceCtorEq] at h;done)
  | (intro h;rw [h])
  | intro h
 all_goals first
  | skip
 refine aj (Q:=_) [0,1,5,6] [] (fun n st=>∃ (i:Nat) (m:Int),st=([argS 33 l,.val false [.i .i64 b],.val false [.i .i64 m],.val false [.i .i64 (i:Int)]],[])∧i≤l.length∧inK .i64 m∧n=l.length - i) ?_ ?_
 · exact ⟨rfl,l.length,0,_,rfl,jc7 _,kk0,rfl⟩
 rintro n st ⟨i,m,rfl,hle,hm,rfl⟩
 repeat' first
  | refine And.intro ?_ ?_
  | (intro h;simp only [reduceCtorEq] at h;done)
  | (intro h;rw [h])
  | intro h
 all_goals first
  | exact Or.inr rfl
  | with_reducible exact jdk _
  | (have hi:i < l.length:=ltN' (by with_reducible assumption)
     first
      | with_reducible exact jc6 (by with_reducible assumption)
      | (refine ⟨l.length - (i+1),by omega,i+1,_,congrArg (fun z:Int=>(([argS 33 l,.val false [.i .i64 b],.val false [.i .i64 _],.val false [.i .i64 z]],[]):Snap)) (dG hi hlm),by omega,hm,rfl⟩)
      | (refine ⟨l.length - (i+1),by omega,i+1,_,congrArg (fun z:Int=>(([argS 33 l,.val false [.i .i64 b],.val false [.i .i64 _],.val false [.i .i64 z]],[]):Snap)) (dG hi hlm),by omega,aV _ _,rfl⟩)
      | (show aX _ _;exact rfl))
  | exact ⟨_,hm,rfl,True.intro⟩
theorem any75:AnyX Tryz.prog T 75 (fun a=>∃ x y:List D,a=[argG cO x,argG cO y]) (fun x:Bool=>.val false [.b x]) (fun x:Bool=>True):=by
 refine AnyX.of (false) (True.intro) (fokA (fun _ (x:Bool)=>.val false [.b x]) (post:=fun _ (x:Bool)=>True) (env:=envL []) (N:=24) tabT ae mixed Tryz.func75 rfl Tryz.call75 Tryz.ntmps75 ?_)
 rintro args ⟨x,y,rfl⟩ hwf
 refine ⟨by simp,?_⟩
 clear hwf
 rw [Tryz.results75]
 repeat' first
  | refine And.intro ?_ ?_
  | (intro h;simp only [reduceCtorEq] at h;done)
  | (intro h;rw [h])
  | intro h
 all_goals first
  | exact Or.inr rfl
  | exact ⟨_,True.intro,rfl,True.intro⟩
theorem any74:AnyX Tryz.prog T 74 (fun a=>∃ (l:List (List D)) (r:List D),l.length≤1048576∧a=[argS 33 l,argG cO r]) (fun x:Int=>.val false [.i .i64 x]) (fun x:Int=>True):=by
 refine AnyX.of (0) (True.intro) (fokA (fun _ (x:Int)=>.val false [.i .i64 x]) (post:=fun _ (x:Int)=>True) (env:=envL []) (N:=31) tabT ae mixed Tryz.func74 rfl Tryz.call74 Tryz.ntmps74 ?_)
 rintro args ⟨l,r,hlm,rfl⟩ hwf
 refine ⟨by simp,?_⟩
 clear hwf
 rw [Tryz.results74]
 repeat' first
  | refine And.intro ?_ ?_
  | (intro h;simp only [reduceCtorEq] at h;done)
  | (intro h;rw [h])
  | intro h
 all_goals first
  | skip
 refine aj (Q:=_) [0,3,5] [3] (fun n st=>∃ (i:Nat),st=([argS 33 l,.ptr 3 1 0,.val false [.i .i64 (i:Int)]],[(1,(rowC cO r).map fun c=>.val false [c])])∧i≤l.length∧n=l.length - i) ?_ ?_
 · exact ⟨rfl,l.length,0,rfl,jc7 _,rfl⟩
 rintro n st ⟨i,rfl,hle,rfl⟩
 repeat' first
  | refine And.intro ?_ ?_
  | (intro h;simp only [reduceCtorEq] at h;done)
  | (intro h;rw [h])
  | intro h
 all_goals first
  | (show av _=true;kernel_rfl)
  | (show ba _ _=true;kernel_rfl)
  | exact Or.inr rfl
  | with_reducible exact jdk _
  | (have hi:i < l.length:=ltN' (by with_reducible assumption)
     first
      | with_reducible exact jc6 (by with_reducible assumption)
      | exact ⟨_,True.intro,rfl,True.intro⟩
      | (refine ⟨l.length - (i+1),by omega,i+1,congrArg (fun z:Int=>(([argS 33 l,.ptr 3 1 0,.val false [.i .i64 z]],[(1,(rowC cO r).map fun c=>.val false [c])]):Snap)) (dG hi hlm),by omega,  rfl⟩)
      | (show aX _ _;exact rfl))
  | exact ⟨_,True.intro,rfl,True.intro⟩
theorem any76:AnyX Tryz.prog T 76 (fun a=>∃ x:OLs,x.ok∧a=[argG cO x.row]) (fun x:OLs=>.val true [.i .i64 x.a0,.i .i64 x.a1,.i .i64 x.a2,.sl true 3 x.sn,.i .i64 x.e.k,.i .i64 x.e.at_,.i .i64 x.e.c.id,.i .i64 x.e.c.ve,.i .i64 x.e.c.k,.s x.e.c.nm,.s x.e.c.cd,.i .i64 x.e.c.n,.s x.fr,.s x.tt,.i .i64 x.ce,.i .i64 x.ve,.sl true 76 x.rd]) (fun x:OLs=>x.ok):=by
 refine AnyX.of (zOL) (rp) (fokA (fun _ (x:OLs)=>.val true [.i .i64 x.a0,.i .i64 x.a1,.i .i64 x.a2,.sl true 3 x.sn,.i .i64 x.e.k,.i .i64 x.e.at_,.i .i64 x.e.c.id,.i .i64 x.e.c.ve,.i .i64 x.e.c.k,.s x.e.c.nm,.s x.e.c.cd,.i .i64 x.e.c.n,.s x.fr,.s x.tt,.i .i64 x.ce,.i .i64 x.ve,.sl true 76 x.rd]) (post:=fun _ (x:OLs)=>x.ok) (env:=envL [(106,(cpS 76))]) (N:=13) tabT (aa ok106 ae) mixed Tryz.func76 rfl Tryz.call76 Tryz.ntmps76 ?_)
 rintro args ⟨x,hx,rfl⟩ hwf
 refine ⟨by simp,?_⟩
 clear hwf
 have hsn:=hx.2.2.2.1.1
 have hrd:=hx.2.2.2.2.2.2.2.2.2.1
 rw [Tryz.results76]
 repeat' first
  | refine And.intro ?_ ?_
  | (intro h;simp only [reduceCtorEq] at h;done)
  | (intro h;rw [h])
  | intro h
 all_goals first
  | exact Or.inr rfl
  | exact ⟨_,rds_w hx.2.2.2.2.2.2.2.2.2,rfl⟩
  | (show 0+x.sn.length≤maxLen;simp only [maxLen];omega)
  | (show (0+x.sn.length) * 8≤140737488355328;omega)
  | exact ⟨x,hx,rfl,True.intro⟩
theorem any44:AnyY Tryz.prog T 44 (fun m=>∃ a b:List (List D),((∀ y ∈ a,OpD y)∧(∀ y ∈ b,OpD y)∧a.length+b.length≤1000)∧m=[argS 33 a,argS 33 b]) (fun x:List (List D)=>.val false [.sl false 33 x]) (fun (m:List SV) (x:List (List D))=>(∀ y ∈ x,OpD y)∧x.length≤len2 m):=by
 obtain ⟨g74,k74,q74⟩:=any74
 obtain ⟨g75,k75,q75⟩:=any75
 obtain ⟨g76,k76,q76⟩:=any76
 refine AnyY.of (fun _=>[]) (fun _ _=>⟨all0,jc7 _⟩) (fokA (fun _ (x:List (List D))=>.val false [.sl false 33 x]) (post:=fun m (x:List (List D))=>(∀ y ∈ x,OpD y)∧x.length≤len2 m) (env:=envL [(74, { pre:=fun a=>∃ (l:List (List D)) (r:List D),l.length≤1048576∧a=[argS 33 l,argG cO r],res:=fun a=>(fun x:Int=>.val false [.i .i64 x]) (g74 a) }),(75, { pre:=fun a=>∃ x y:List D,a=[argG cO x,argG cO y],res:=fun a=>(fun x:Bool=>.val false [.b x]) (g75 a) }),(76, { pre:=fun a=>∃ x:OLs,x.ok∧a=[argG cO x.row],res:=fun a=>(fun x:OLs=>.val true [.i .i64 x.a0,.i .i64 x.a1,.i .i64 x.a2,.sl true 3 x.sn,.i .i64 x.e.k,.i .i64 x.e.at_,.i .i64 x.e.c.id,.i .i64 x.e.c.ve,.i .i64 x.e.c.k,.s x.e.c.nm,.s x.e.c.cd,.i .i64 x.e.c.n,.s x.fr,.s x.tt,.i .i64 x.ce,.i .i64 x.ve,.sl true 76 x.rd]) (g76 a) })]) (N:=65) tabT (aa k74 (aa k75 (aa k76 ae))) mixed Tryz.func44 rfl Tryz.call44 Tryz.ntmps44 ?_)
 rintro args ⟨a,b,⟨ha,hb,hn⟩,rfl⟩ hwf
 refine ⟨by simp,?_⟩
 clear hwf
 have hab:(a++b).length=a.length+b.length:=jc8
 have hO:∀ y ∈ a++b,OpD y:=lw ha hb
 have hlm:(a++b).length≤1048576:=by omega
 rw [Tryz.results44]
 repeat' first
  | refine And.intro ?_ ?_
  | (intro h;simp only [reduceCtorEq] at h;done)
  | (intro h;rw [h])
  | intro h
 all_goals first
  | (show 0+a.length≤maxLen;simp only [maxLen];omega)
  | (show (0+a.length) * 200≤140737488355328;omega)
  | (show a.length+b.length≤maxLen;simp only [maxLen];omega)
  | (show (a.length+b.length) * 200≤140737488355328;omega)
  | skip
 refine aj (Q:=_) [5,6,7] [] (fun n st=>∃ (i:Nat) (ob:Bool) (o:List (List D)),st=([.val false [.sl ob 33 o],.val false [.sl true 33 (a++b)],.val false [.i .i64 (i:Int)]],[])∧i≤(a++b).length∧(∀ y ∈ o,OpD y)∧o.length≤i∧n=(a++b).length - i) ?_ ?_
 · exact ⟨rfl,(a++b).length,0,_,_,rfl,jc7 _,all0,jdm _,rfl⟩
 rintro n st ⟨i,ob,o,rfl,hle,hA,hol,rfl⟩
 cases ob
 all_goals repeat' first
  | refine And.intro ?_ ?_
  | (intro h;simp only [reduceCtorEq] at h;done)
  | (intro h;rw [h])
  | intro h
 all_goals first
  | exact Or.inr rfl
  | with_reducible exact jdk _
  | (have hi:i < (a++b).length:=ltN' (by with_reducible assumption)
     first
      | with_reducible exact jc6 (by with_reducible assumption)
      | (show (Int.toNat (i:Int)) < _;rw [jds];exact hi)
      | exact ⟨_,_,(show o.length≤1048576 by omega),rfl⟩
      | (show aX _ _;rfl)
      | (refine ⟨(a++b).length - (i+1),by omega,i+1,_,_,congrArg (fun z:Int=>(([.val false [.sl _ 33 _],.val false [.sl true 33 (a++b)],.val false [.i .i64 z]],[]):Snap)) (dG hi hlm),by omega,hA,by omega,rfl⟩))
  | exact ⟨_,⟨hA,(show o.length≤len2 [argS 33 a,argS 33 b] from (show o.length≤a.length+b.length by omega))⟩,rfl,True.intro⟩
  | skip
 all_goals have hi:i < (a++b).length:=by first|exact ltN' (by with_reducible assumption)
 all_goals refine aj (Q:=_) [5,6,7,8] [] (fun n2 st2=>∃ (k:Nat) (ob2:Bool),st2=([.val false [.sl ob2 33 o],.val false [.sl true 33 (a++b)],.val false [.i .i64 (i:Int)],.val false [.i .i64 (k:Int)]],[])∧k≤o.length∧n2=o.length - k) ?_ ?_
 all_goals first
  | exact ⟨rfl,o.length,0,_,rfl,jc7 _,rfl⟩
  | skip
 all_goals rintro n2 st2 ⟨k,ob2,rfl,kle,rfl⟩
 all_goals cases ob2
 all_goals repeat' first
  | refine And.intro ?_ ?_
  | (intro h;simp only [reduceCtorEq] at h;done)
  | (intro h;rw [h])
  | intro h
 all_goals first
  | (show av _=true;kernel_rfl)
  | (show ba _ _=true;kernel_rfl)
  | with_reducible exact jdk _
  | (show (Int.toNat (i:Int)) < _;rw [jds];exact hi)
  | (show (i:Int) < (((a++b).length:Nat):Int);omega)
  | (show (k:Int) < ((o.length:Nat):Int);have hk:k < o.length:=ltN' (by with_reducible assumption);omega)
  | (show (Int.toNat (k:Int)) < o.length;have hk:k < o.length:=ltN' (by with_reducible assumption);rw [jds];exact hk)
  | exact ⟨_,_,rfl⟩
  | (show aX _ _;exact rfl)
  | exact jdR _
  | (show (k:Int)≤((o.length:Nat):Int);omega)
  | ((with_reducible show (_:Nat)≤_);simp only [jc8,jdL,jdp,jdl,jdu,maxLen,jds];omega)
  | (obtain ⟨x,hx,hok⟩:=OpD.at hO (show Int.toNat (i:Int) < _ by rw [jds];exact hi)
     exact ⟨x,hok,congrArg (fun r=>[argG cO r]) hx⟩)
  | (have hk:k < o.length:=ltN' (by with_reducible assumption)
     exact ⟨o.length - (k+1),by omega,k+1,_,congrArg (fun z:Int=>(([.val false [.sl _ 33 o],.val false [.sl true 33 (a++b)],.val false [.i .i64 (i:Int)],.val false [.i .i64 z]],[]):Snap)) (dG hk (by omega)),by omega,rfl⟩)
  | (refine ⟨(a++b).length - (i+1),by omega,i+1,_,_,congrArg (fun z:Int=>(([.val false [.sl _ 33 _],.val false [.sl true 33 (a++b)],.val false [.i .i64 z]],[]):Snap)) (dG hi hlm),by omega,?_,?_,rfl⟩
     · exact lw (lw (lw all0 (uT (uR hA _) _)) (aR all0 ⟨_,rfl,q76 _⟩)) (uT (uR hA _) _)
     · simp only [jc8,jdL,jdp,jdl,jdu,jds];omega)
def spNV:FSpec where
 pre args:=∃ n:Int,args=[.val false [.i .i64 n]]
 res args:=match args with
  | [.val _ [.i _ n]]=>.val true [.i .i64 1,.i .i64 n,.i .i64 0,.s ⟨#[]⟩,.sl true 74 [],.sl true 9 [],.sl true 124 []]
  | _=>.none
theorem okNV:FOk Tryz.prog T 81 spNV:=by
 refine fok (env:=envL []) (N:=5) tabT ae mixed Tryz.func81 rfl Tryz.call81 Tryz.ntmps81 ?_
 rintro args ⟨n,rfl⟩ hwf
 refine ⟨by simp,?_⟩
 clear hwf
 rw [Tryz.results81]
 repeat' first
  | refine And.intro ?_ ?_
  | (intro h;simp only [reduceCtorEq] at h;done)
  | (intro h;rw [h])
  | intro h
 all_goals first
  | exact True.intro
  | exact Or.inr rfl
  | exact rfl
structure RDs where
 k:Int
 n:Int
 t:Int
 s:ByteArray
instance:Inhabited RDs:=⟨⟨0,0,0,ByteArray.empty⟩⟩
theorem any80:AnyD Tryz.prog T 80 5 (fun m=>m=[]) (fun x:RDs=>.val true [.i .i64 x.k,.i .i64 x.n,.i .i64 x.t,.s x.s,.i .i64 0,.i .i64 0,.i .i64 0,.s ⟨#[]⟩,.sl true 74 [],.sl true 9 [],.sl true 124 []]) (fun (m:List SV) (x:RDs)=>inK .i64 x.k∧inK .i64 x.n∧inK .i64 x.t∧x.s.size≤8):=by
 refine AnyD.of (fun _=>⟨0,0,0,⟨#[]⟩⟩) (fun _ _=>⟨kk0,kk0,kk0,jc7 _⟩) (dM (α:=RDs × Int × Int) (fun _ z=>(fun x:RDs=>.val true [.i .i64 x.k,.i .i64 x.n,.i .i64 x.t,.s x.s,.i .i64 0,.i .i64 0,.i .i64 0,.s ⟨#[]⟩,.sl true 74 [],.sl true 9 [],.sl true 124 []]) z.1) (fun a z=>curU 5 a z.2.1 z.2.2) (post:=fun a z=>bo (rowsOf a) z.2.1∧(fun (m:List SV) (x:RDs)=>inK .i64 x.k∧inK .i64 x.n∧inK .i64 x.t∧x.s.size≤8) a.tail z.1) (env:=envL [(29,(bM 5)),(48,(eI 5 9))]) (N:=14) tabT (aa ok29 (aa ok48 ae)) mixed Tryz.func80 rfl Tryz.call80 Tryz.ntmps80 ?_)
 rintro cs args ⟨rows,i,h0,more,ok,hp,he⟩ hwf
 obtain ⟨rfl,rfl⟩:cs=curC 5 rows i h0∧args=more:=by simpa only [jdw,SV.tup.injEq,jdA,true_and,and_true] using he
 obtain rfl:=hp
 refine ⟨by simp,?_⟩
 clear he hwf
 rw [Tryz.results80]
 repeat' first
  | refine And.intro ?_ ?_
  | (intro h;simp only [reduceCtorEq] at h;done)
  | (intro h;rw [h])
  | intro h
 all_goals first
  | exact Or.inr rfl
  | (show List.length _=_;rfl)
  | refine ⟨_,_,_,_,?_,⟨by decide,by decide⟩,rfl⟩
  | (refine ⟨(⟨_,_,_,_⟩,_,_),⟨?_,?_⟩,rfl,rfl,True.intro⟩;rotate_left;focus (exact ⟨aV _ _,au (aq ⟨by decide,by decide⟩),au (aq ⟨by decide,by decide⟩),af (P:=fun t=>t.size≤8) (jc7 _) (by intro r hr;simp only [az,jdf,jdc,jde,jda,or_false] at hr;rcases hr with rfl|rfl|rfl|rfl <;> decide) _⟩))
 all_goals repeat (first|exact ok|exact ok1|exact ok2|refine am ?_)
theorem any49:AnyD Tryz.prog T 49 5 (fun m=>m=[]) (fun x:List (List D)=>.val false [.sl true 76 x]) (fun (m:List SV) (x:List (List D))=>x.length≤8∧∀ r ∈ x,RdD r):=by
 obtain ⟨g80,k80,q80⟩:=any80
 refine AnyD.of (fun _=>[]) (fun _ _=>⟨jc7 _,all0⟩) (dM (α:=List (List D) × Int × Int) (fun _ z=>(fun x:List (List D)=>.val false [.sl true 76 x]) z.1) (fun a z=>curU 5 a z.2.1 z.2.2) (post:=fun a z=>bo (rowsOf a) z.2.1∧(fun (m:List SV) (x:List (List D))=>x.length≤8∧∀ r ∈ x,RdD r) a.tail z.1) (env:=envL [(29,(bM 5)),(80,spD 5 (fun m=>m=[]) (fun x:RDs=>.val true [.i .i64 x.k,.i .i64 x.n,.i .i64 x.t,.s x.s,.i .i64 0,.i .i64 0,.i .i64 0,.s ⟨#[]⟩,.sl true 74 [],.sl true 9 [],.sl true 124 []]) g80),(81,spNV)]) (N:=34) tabT (aa ok29 (aa k80 (aa okNV ae))) mixed Tryz.func49 rfl Tryz.call49 Tryz.ntmps49 ?_)
 rintro cs args ⟨rows,i,h0,more,ok,hp,he⟩ hwf
 obtain ⟨rfl,rfl⟩:cs=curC 5 rows i h0∧args=more:=by simpa only [jdw,SV.tup.injEq,jdA,true_and,and_true] using he
 obtain rfl:=hp
 refine ⟨by simp,?_⟩
 clear he hwf
 rw [Tryz.results49]
 repeat' first
  | refine And.intro ?_ ?_
  | (intro h;simp only [reduceCtorEq] at h;done)
  | (intro h;rw [h])
  | intro h
 all_goals first
  | (show List.length _=_;rfl)
  | refine ⟨_,_,_,_,?_,⟨by decide,by decide⟩,rfl⟩
  | skip
 all_goals try ((with_reducible show bo _ _);repeat (first|exact ok|exact ok1|exact ok2|refine am ?_|refine (q80 _ _ _ _ ?_ rfl).1))
 refine aj (Q:=_) [0,3,4,5] [34] (fun n s=>∃ (z m:Int) (o:List (List D)) (I H:Int),s=([.ptr 34 0 0,.val false [.sl true 76 o],.val false [.i .i64 m],.val false [.i .i64 z]],[(0,[.val false [.sl false 5 rows],.val false [.i .i64 I],.val false [.i .i64 H]])])∧0≤m∧m≤3∧bo rows I∧(∀ r ∈ o,RdD r)∧o.length=z.toNat∧0≤z∧z≤m∧n=m.toNat - z.toNat) ?_ ?_
 · exact ⟨rfl,_,0,_,_,_,_,rfl,(aP (rows:=rows) (i:=i) (h:=h0) (n:=4) ⟨by decide,by decide⟩).1,jeA (aP (rows:=rows) (i:=i) (h:=h0) (n:=4) ⟨by decide,by decide⟩).2,am ok,all0,rfl,by decide,(aP (rows:=rows) (i:=i) (h:=h0) (n:=4) ⟨by decide,by decide⟩).1,rfl⟩
 rintro n s ⟨z,m,o,I,H,rfl,hm0,hm1,ok1,hA,hol,h1,h2,h3⟩
 repeat' first
  | refine And.intro ?_ ?_
  | (intro h;simp only [reduceCtorEq] at h;done)
  | (intro h;rw [h])
  | intro h
 all_goals first
  | exact Or.inr rfl
  | (show aX _ _;rfl)
  | (show List.length _=_;rfl)
  | exact ⟨_,_,_,_,(by repeat (first|exact ok|exact ok1|exact ok2|refine am ?_|refine (q80 _ _ _ _ ?_ rfl).1)),rfl,rfl⟩
  | exact ⟨_,rfl⟩
  | (show o.length+1≤maxLen;simp only [maxLen];omega)
  | (show (o.length+1) * 152≤140737488355328;omega)
  | (have hz:z < m:=jc6 ‹decide (z < m)=true›
     refine ⟨m.toNat - (z+1).toNat,by omega,z+1,m,_,_,_,congrArg (fun q=>(([.ptr 34 0 0,.val false [.sl true 76 _],.val false [.i .i64 _],.val false [.i .i64 q]],[(0,[.val false [.sl false 5 rows],.val false [.i .i64 _],.val false [.i .i64 _]])]):Snap)) (aF (by omega) (by omega)),hm0,hm1,(by repeat (first|exact ok|exact ok1|exact ok2|refine am ?_|refine (q80 _ _ _ _ ?_ rfl).1)),?_,?_,by omega,by omega,rfl⟩
     · refine aR hA ⟨_,_,_,_,_,rfl,(q80 _ _ _ _ (by repeat (first|exact ok|exact ok1|exact ok2|refine am ?_|refine (q80 _ _ _ _ ?_ rfl).1)) rfl).2.1,?_,(q80 _ _ _ _ (by repeat (first|exact ok|exact ok1|exact ok2|refine am ?_|refine (q80 _ _ _ _ ?_ rfl).1)) rfl).2.2.2.1,?_,aV _ _⟩
       · first|exact kk0|exact (q80 _ _ _ _ (by repeat (first|exact ok|exact ok1|exact ok2|refine am ?_|refine (q80 _ _ _ _ ?_ rfl).1)) rfl).2.2.1
       · first|exact jc7 _|exact (q80 _ _ _ _ (by repeat (first|exact ok|exact ok1|exact ok2|refine am ?_|refine (q80 _ _ _ _ ?_ rfl).1)) rfl).2.2.2.2
     · rw [jc8,hol];show z.toNat+1=_;omega)
  | (refine ⟨(_,_,_),⟨ok1,?_⟩,rfl,rfl,True.intro⟩
     exact ⟨(show o.length≤8 by omega),hA⟩)
theorem any28:AnyD Tryz.prog T 28 5 (fun m=>∃ (l:List (List D)) (b:Int),(l.length≤1048576∧inK .i64 b)∧m=[argS 33 l,.val false [.i .i64 b]]) (fun x:OLs=>.val true [.i .i64 x.a0,.i .i64 x.a1,.i .i64 x.a2,.sl true 3 x.sn,.i .i64 x.e.k,.i .i64 x.e.at_,.i .i64 x.e.c.id,.i .i64 x.e.c.ve,.i .i64 x.e.c.k,.s x.e.c.nm,.s x.e.c.cd,.i .i64 x.e.c.n,.s x.fr,.s x.tt,.i .i64 x.ce,.i .i64 x.ve,.sl true 76 x.rd]) (fun (m:List SV) (x:OLs)=>x.ok∧x.sn.length=3):=by
 obtain ⟨g45,k45,q45⟩:=any45
 obtain ⟨g47,k47,q47⟩:=any47
 obtain ⟨g46,k46,q46⟩:=any46
 obtain ⟨g49,k49,q49⟩:=any49
 refine AnyD.of (fun _=>⟨0,0,0,[[.i 0],[.i 0],[.i 0]],⟨0,0,⟨0,0,0,⟨#[]⟩,⟨#[]⟩,0⟩⟩,⟨#[]⟩,⟨#[]⟩,0,0,[]⟩) (fun _ _=>⟨⟨kk0,kk0,kk0,⟨by decide,aR (l:=[_,_]) (aR (l:=[_]) (all1 ⟨0,rfl,kk0⟩) ⟨0,rfl,kk0⟩) ⟨0,rfl,kk0⟩⟩,⟨kk0,kk0,kk0,kk0,kk0,jc7 _,jc7 _,kk0⟩,jc7 _,jc7 _,kk0,kk0,jc7 _,all0⟩,rfl⟩) (dM (α:=OLs × Int × Int) (fun _ z=>(fun x:OLs=>.val true [.i .i64 x.a0,.i .i64 x.a1,.i .i64 x.a2,.sl true 3 x.sn,.i .i64 x.e.k,.i .i64 x.e.at_,.i .i64 x.e.c.id,.i .i64 x.e.c.ve,.i .i64 x.e.c.k,.s x.e.c.nm,.s x.e.c.cd,.i .i64 x.e.c.n,.s x.fr,.s x.tt,.i .i64 x.ce,.i .i64 x.ve,.sl true 76 x.rd]) z.1) (fun a z=>curU 5 a z.2.1 z.2.2) (post:=fun a z=>bo (rowsOf a) z.2.1∧(fun (m:List SV) (x:OLs)=>x.ok∧x.sn.length=3) a.tail z.1) (env:=envL [(45, { pre:=fun a=>∃ l:List (List D),l.length≤1048576∧a=[argS 33 l],res:=fun a=>(fun x:Int=>.val false [.i .i64 x]) (g45 a) }),(29,(bM 5)),(46,spD 5 (fun m=>m=[]) (fun x:EDs=>.val true [.i .i64 x.k,.i .i64 x.at_,.i .i64 x.c.id,.i .i64 x.c.ve,.i .i64 x.c.k,.s x.c.nm,.s x.c.cd,.i .i64 x.c.n]) g46),(47, { pre:=fun a=>∃ (l:List (List D)) (b:Int),l.length≤1048576∧a=[argS 33 l,.val false [.i .i64 b]],res:=fun a=>(fun x:Int=>.val false [.i .i64 x]) (g47 a) }),(48,(eI 5 9)),(49,spD 5 (fun m=>m=[]) (fun x:List (List D)=>.val false [.sl true 76 x]) g49)]) (N:=64) tabT (aa k45 (aa ok29 (aa k46 (aa k47 (aa ok48 (aa k49 ae)))))) mixed Tryz.func28 rfl Tryz.call28 Tryz.ntmps28 ?_)
 rintro cs args ⟨rows,i,h0,more,ok,hp,he⟩ hwf
 obtain ⟨rfl,rfl⟩:cs=curC 5 rows i h0∧args=more:=by simpa only [jdw,SV.tup.injEq,jdA,true_and,and_true] using he
 obtain ⟨l,b,⟨hlm,hb⟩,rfl⟩:=hp
 refine ⟨by simp,?_⟩
 clear he hwf
 rw [Tryz.results28]
 repeat' first
  | refine And.intro ?_ ?_
  | (intro h;simp only [reduceCtorEq] at h;done)
  | (intro h;rw [h])
  | intro h
 all_goals first
  | (show List.length _=_;rfl)
  | refine ⟨_,_,_,_,?_,⟨by decide,by decide⟩,rfl⟩
  | refine ⟨_,_,_,_,?_,rfl,rfl⟩
  | exact ⟨_,hlm,rfl⟩
  | skip
 all_goals try ((with_reducible show bo _ _);repeat (first|exact ok|exact ok1|exact ok2|refine am ?_|refine (q46 _ _ _ _ ?_ rfl).1|refine (q49 _ _ _ _ ?_ rfl).1))
 refine aj (Q:=_) [0,1,2,6,7,8] [64,6,7] (fun n s=>∃ (z x0:Int) (y:EDs) (sn:List (List D)) (I H:Int),s=([.ptr 64 0 0,argS 33 l,.val false [.i .i64 b],.ptr 6 1 0,.ptr 7 1 0,.val false [.i .i64 z]],[(0,[.val false [.sl false 5 rows],.val false [.i .i64 I],.val false [.i .i64 H]]),(1,[.val false [.i .i64 0],.val false [.i .i64 0],.val false [.i .i64 0],.val false [.sl true 3 []],.val false [.i .i64 0],.val false [.i .i64 0],.val false [.i .i64 0],.val false [.i .i64 0],.val false [.i .i64 0],.val false [.s ByteArray.empty],.val false [.s ByteArray.empty],.val false [.i .i64 0],.val false [.s ByteArray.empty],.val false [.s ByteArray.empty],.val false [.i .i64 0],.val false [.i .i64 0],.val false [.sl true 76 []]]),(1,[.val false [.i .i64 x0],.val false [.i .i64 b],.val false [.i .i64 1],.val false [.sl true 3 sn],.val false [.i .i64 y.k],.val false [.i .i64 y.at_],.val false [.i .i64 y.c.id],.val false [.i .i64 y.c.ve],.val false [.i .i64 y.c.k],.val false [.s y.c.nm],.val false [.s y.c.cd],.val false [.i .i64 y.c.n],.val false [.s ByteArray.empty],.val false [.s ByteArray.empty],.val false [.i .i64 0],.val false [.i .i64 0],.val false [.sl true 76 []]])])∧inK .i64 x0∧y.ok∧bo rows I∧(∀ r ∈ sn,IntD r)∧sn.length=z.toNat∧0≤z∧z≤3∧n=3 - z.toNat) ?_ ?_
 · exact ⟨rfl,_,0,_,⟨_,_,⟨_,_,_,_,_,_⟩⟩,_,_,_,rfl,aV _ _,(q46 _ _ _ _ (am ok) rfl).2,(q46 _ _ _ _ (am ok) rfl).1,all0,rfl,by decide,by decide,rfl⟩
 rintro n s ⟨z,x0,y,sn,I,H,rfl,hx0,hy,ok1,hA,hol,h1,h2,h3⟩
 repeat' first
  | refine And.intro ?_ ?_
  | (intro h;simp only [reduceCtorEq] at h;done)
  | (intro h;rw [h])
  | intro h
 all_goals first
  | (show av _=true;kernel_rfl)
  | (show ba _ _=true;kernel_rfl)
  | exact Or.inr rfl
  | (show aX _ _;rfl)
  | (show List.length _=_;rfl)
  | exact ⟨_,_,hlm,rfl⟩
  | exact ⟨_,_,_,_,(by repeat (first|exact ok|exact ok1|exact ok2|refine am ?_|refine (q46 _ _ _ _ ?_ rfl).1|refine (q49 _ _ _ _ ?_ rfl).1)),rfl,rfl⟩
  | exact ⟨_,_,_,_,(by repeat (first|exact ok|exact ok1|exact ok2|refine am ?_|refine (q46 _ _ _ _ ?_ rfl).1|refine (q49 _ _ _ _ ?_ rfl).1)),⟨by decide,by decide⟩,rfl⟩
  | (show sn.length+1≤maxLen;simp only [maxLen];omega)
  | (show (sn.length+1) * 8≤140737488355328;omega)
  | (have hz:z < 3:=jc6 ‹decide (z < 3)=true›
     refine ⟨3 - (z+1).toNat,by omega,z+1,x0,y,_,_,_,congrArg (fun q=>(([.ptr 64 0 0,argS 33 l,.val false [.i .i64 b],.ptr 6 1 0,.ptr 7 1 0,.val false [.i .i64 q]],[(0,[.val false [.sl false 5 rows],.val false [.i .i64 _],.val false [.i .i64 _]]),(1,[.val false [.i .i64 0],.val false [.i .i64 0],.val false [.i .i64 0],.val false [.sl true 3 []],.val false [.i .i64 0],.val false [.i .i64 0],.val false [.i .i64 0],.val false [.i .i64 0],.val false [.i .i64 0],.val false [.s ByteArray.empty],.val false [.s ByteArray.empty],.val false [.i .i64 0],.val false [.s ByteArray.empty],.val false [.s ByteArray.empty],.val false [.i .i64 0],.val false [.i .i64 0],.val false [.sl true 76 []]]),(1,[.val false [.i .i64 x0],.val false [.i .i64 b],.val false [.i .i64 1],.val false [.sl true 3 _],.val false [.i .i64 y.k],.val false [.i .i64 y.at_],.val false [.i .i64 y.c.id],.val false [.i .i64 y.c.ve],.val false [.i .i64 y.c.k],.val false [.s y.c.nm],.val false [.s y.c.cd],.val false [.i .i64 y.c.n],.val false [.s ByteArray.empty],.val false [.s ByteArray.empty],.val false [.i .i64 0],.val false [.i .i64 0],.val false [.sl true 76 []]])]):Snap)) (aF (by omega) (by omega)),hx0,hy,ok1,aR hA ⟨_,rfl,q47 _⟩,?_,by omega,by omega,rfl⟩
     rw [jc8,hol];show z.toNat+1=_;omega)
  | (refine ⟨(⟨_,_,_,_,⟨_,_,⟨_,_,_,_,_,_⟩⟩,_,_,_,_,_⟩,_,_),⟨(by repeat (first|exact ok|exact ok1|exact ok2|refine am ?_|refine (q46 _ _ _ _ ?_ rfl).1|refine (q49 _ _ _ _ ?_ rfl).1)),?_⟩,rfl,rfl,True.intro⟩
     have hz:¬ z < 3:=jdh ‹decide (z < 3)=false›
     refine ⟨⟨hx0,hb,?_,⟨(show sn.length≤8 by omega),hA⟩,?_,?_,?_,?_,?_,?_⟩,(show sn.length=3 by omega)⟩
     · first|exact kk1|exact kk2|exact kk3
     · first|exact hy|exact ⟨kk0,kk0,kk0,kk0,kk0,jc7 _,jc7 _,kk0⟩
     · first|exact jc7 _|exact af (P:=fun t=>t.size≤8) (jc7 _) (by intro r hr;simp only [az,jdf,jdc,jde,jda,or_false] at hr;rcases hr with rfl|rfl|rfl <;> decide) _
     · first|exact jc7 _|exact af (P:=fun t=>t.size≤8) (jc7 _) (by intro r hr;simp only [az,jdf,jdc,jde,jda,or_false] at hr;rcases hr with rfl|rfl|rfl <;> decide) _
     · first|exact kk0|exact aV _ _
     · first|exact kk0|exact aV _ _
     · first|exact ⟨jc7 _,all0⟩|exact (q49 _ _ _ _ (by repeat (first|exact ok|exact ok1|exact ok2|refine am ?_|refine (q46 _ _ _ _ ?_ rfl).1|refine (q49 _ _ _ _ ?_ rfl).1)) rfl).2)
theorem any24:AnyD Tryz.prog T 24 5 (fun m=>∃ w:Int,(0≤w∧w≤10)∧m=[.val false [.i .i64 w]]) (fun x:List (List D)=>.val false [.sl false 33 x]) (fun (m:List SV) (x:List (List D))=>(∀ y ∈ x,OpD y)∧x.length≤10):=by
 obtain ⟨g44,k44,q44⟩:=any44
 obtain ⟨g28,k28,q28⟩:=any28
 refine AnyD.of (fun _=>[]) (fun _ _=>⟨all0,jc7 _⟩) (dM (α:=List (List D) × Int × Int) (fun _ z=>(fun x:List (List D)=>.val false [.sl false 33 x]) z.1) (fun a z=>curU 5 a z.2.1 z.2.2) (post:=fun a z=>bo (rowsOf a) z.2.1∧(fun (m:List SV) (x:List (List D))=>(∀ y ∈ x,OpD y)∧x.length≤10) a.tail z.1) (env:=envL [(29,(bM 5)),(25,(kW 5)),(28,spD 5 (fun m=>∃ (l:List (List D)) (b:Int),(l.length≤1048576∧inK .i64 b)∧m=[argS 33 l,.val false [.i .i64 b]]) (fun x:OLs=>.val true [.i .i64 x.a0,.i .i64 x.a1,.i .i64 x.a2,.sl true 3 x.sn,.i .i64 x.e.k,.i .i64 x.e.at_,.i .i64 x.e.c.id,.i .i64 x.e.c.ve,.i .i64 x.e.c.k,.s x.e.c.nm,.s x.e.c.cd,.i .i64 x.e.c.n,.s x.fr,.s x.tt,.i .i64 x.ce,.i .i64 x.ve,.sl true 76 x.rd]) g28),(44, { pre:=fun m=>∃ a b:List (List D),((∀ y ∈ a,OpD y)∧(∀ y ∈ b,OpD y)∧a.length+b.length≤1000)∧m=[argS 33 a,argS 33 b],res:=fun a=>(fun x:List (List D)=>.val false [.sl false 33 x]) (g44 a) })]) (N:=40) tabT (aa ok29 (aa ok25 (aa k28 (aa k44 ae)))) mixed Tryz.func24 rfl Tryz.call24 Tryz.ntmps24 ?_)
 rintro cs args ⟨rows,i,h0,more,ok,hp,he⟩ hwf
 obtain ⟨rfl,rfl⟩:cs=curC 5 rows i h0∧args=more:=by simpa only [jdw,SV.tup.injEq,jdA,true_and,and_true] using he
 obtain ⟨w,hw,rfl⟩:=hp
 refine ⟨by simp,?_⟩
 clear he hwf
 have hw1:IntKind.i64.wrap (w+1)=w+1:=aF (by omega) (by omega)
 rw [Tryz.results24]
 repeat' first
  | refine And.intro ?_ ?_
  | (intro h;simp only [reduceCtorEq] at h;done)
  | (intro h;rw [h])
  | intro h
 all_goals first
  | (show List.length _=_;rfl)
  | refine ⟨_,_,_,_,?_,(by rw [hw1];exact ⟨by omega,by omega⟩),rfl⟩
  | skip
 all_goals try ((with_reducible show bo _ _);repeat (first|exact ok|exact ok1|exact ok2|refine am ?_|refine (q28 _ _ _ _ ?_ (by first|exact ⟨_,_,⟨by simp only [jc8,jdL,jdp,jdu];omega,au (aq ⟨by decide,by decide⟩)⟩,rfl⟩|exact ⟨_,_,⟨by omega,au (aq ⟨by decide,by decide⟩)⟩,rfl⟩)).1))
 refine aj (Q:=_) [0,1,5,6,7] [40] (fun n s=>∃ (ob:Bool) (o:List (List D)) (z m I H:Int),s=([.ptr 40 0 0,.val false [.i .i64 w],.val false [.sl ob 33 o],.val false [.i .i64 m],.val false [.i .i64 z]],[(0,[.val false [.sl false 5 rows],.val false [.i .i64 I],.val false [.i .i64 H]])])∧0≤m∧m≤w∧bo rows I∧(∀ y ∈ o,OpD y)∧o.length≤z.toNat∧0≤z∧z≤m∧n=m.toNat - z.toNat) ?_ ?_
 · exact ⟨rfl,_,_,_,0,_,_,_,rfl,(aP (rows:=rows) (i:=i) (h:=h0) (n:=IntKind.i64.wrap (w+1)) (by rw [hw1];omega)).1,(by have:=(aP (rows:=rows) (i:=i) (h:=h0) (n:=IntKind.i64.wrap (w+1)) (by rw [hw1];omega)).2;rw [hw1] at this ⊢;omega),am ok,all0,jdm _,by decide,(aP (rows:=rows) (i:=i) (h:=h0) (n:=IntKind.i64.wrap (w+1)) (by rw [hw1];omega)).1,rfl⟩
 rintro n s ⟨ob,o,z,m,I,H,rfl,hm0,hm1,ok1,hA,hol,h1,h2,h3⟩
 have hol1:IntKind.i64.wrap ((o.length:Int)+1)=(o.length:Int)+1:=aF (by omega) (by omega)
 cases ob
 all_goals repeat' first
  | refine And.intro ?_ ?_
  | (intro h;simp only [reduceCtorEq] at h;done)
  | (intro h;rw [h])
  | intro h
 all_goals first
  | exact Or.inr rfl
  | (show aX _ _;rfl)
  | (show List.length _=_;rfl)
  | exact jdR _
  | exact ⟨_,_,_,_,(by repeat (first|exact ok|exact ok1|exact ok2|refine am ?_|refine (q28 _ _ _ _ ?_ (by first|exact ⟨_,_,⟨by simp only [jc8,jdL,jdp,jdu];omega,au (aq ⟨by decide,by decide⟩)⟩,rfl⟩|exact ⟨_,_,⟨by omega,au (aq ⟨by decide,by decide⟩)⟩,rfl⟩)).1)),⟨by decide,by decide⟩,rfl⟩
  | exact ⟨_,_,_,_,(by repeat (first|exact ok|exact ok1|exact ok2|refine am ?_|refine (q28 _ _ _ _ ?_ (by first|exact ⟨_,_,⟨by simp only [jc8,jdL,jdp,jdu];omega,au (aq ⟨by decide,by decide⟩)⟩,rfl⟩|exact ⟨_,_,⟨by omega,au (aq ⟨by decide,by decide⟩)⟩,rfl⟩)).1)),(by rw [hol1];exact ⟨by omega,by omega⟩),rfl⟩
  | exact ⟨_,_,_,_,(by repeat (first|exact ok|exact ok1|exact ok2|refine am ?_|refine (q28 _ _ _ _ ?_ (by first|exact ⟨_,_,⟨by simp only [jc8,jdL,jdp,jdu];omega,au (aq ⟨by decide,by decide⟩)⟩,rfl⟩|exact ⟨_,_,⟨by omega,au (aq ⟨by decide,by decide⟩)⟩,rfl⟩)).1)),(by first|exact ⟨_,_,⟨by simp only [jc8,jdL,jdp,jdu];omega,au (aq ⟨by decide,by decide⟩)⟩,rfl⟩|exact ⟨_,_,⟨by omega,au (aq ⟨by decide,by decide⟩)⟩,rfl⟩),rfl⟩
  | exact ⟨_,_,⟨hA,aR all0 ⟨_,rfl,(q28 _ _ _ _ (by repeat (first|exact ok|exact ok1|exact ok2|refine am ?_|refine (q28 _ _ _ _ ?_ (by first|exact ⟨_,_,⟨by simp only [jc8,jdL,jdp,jdu];omega,au (aq ⟨by decide,by decide⟩)⟩,rfl⟩|exact ⟨_,_,⟨by omega,au (aq ⟨by decide,by decide⟩)⟩,rfl⟩)).1)) (by first|exact ⟨_,_,⟨by simp only [jc8,jdL,jdp,jdu];omega,au (aq ⟨by decide,by decide⟩)⟩,rfl⟩|exact ⟨_,_,⟨by omega,au (aq ⟨by decide,by decide⟩)⟩,rfl⟩)).2.1⟩,(by show o.length+1≤1000;omega)⟩,rfl⟩
  | exact (aP (by rw [hol1];exact ⟨by omega,by omega⟩)).1
  | exact jeA (Int.lt_of_lt_of_le (aP (by rw [hol1];exact ⟨by omega,by omega⟩)).2 (Int.le_of_eq hol1))
  | (refine ⟨(_,_,_),⟨ok1,?_⟩,rfl,rfl,True.intro⟩
     exact ⟨hA,(show o.length≤10 by omega)⟩)
  | (have hz:z < m:=jc6 ‹decide (z < m)=true›
     refine ⟨m.toNat - (z+1).toNat,by omega,_,_,z+1,m,_,_,congrArg (fun q=>(([.ptr 40 0 0,.val false [.i .i64 w],.val false [.sl _ 33 _],.val false [.i .i64 _],.val false [.i .i64 q]],[(0,[.val false [.sl false 5 rows],.val false [.i .i64 _],.val false [.i .i64 _]])]):Snap)) (aF (by omega) (by omega)),hm0,hm1,(by repeat (first|exact ok|exact ok1|exact ok2|refine am ?_|refine (q28 _ _ _ _ ?_ (by first|exact ⟨_,_,⟨by simp only [jc8,jdL,jdp,jdu];omega,au (aq ⟨by decide,by decide⟩)⟩,rfl⟩|exact ⟨_,_,⟨by omega,au (aq ⟨by decide,by decide⟩)⟩,rfl⟩)).1)),(q44 _ ⟨_,_,⟨hA,aR all0 ⟨_,rfl,(q28 _ _ _ _ (by repeat (first|exact ok|exact ok1|exact ok2|refine am ?_|refine (q28 _ _ _ _ ?_ (by first|exact ⟨_,_,⟨by simp only [jc8,jdL,jdp,jdu];omega,au (aq ⟨by decide,by decide⟩)⟩,rfl⟩|exact ⟨_,_,⟨by omega,au (aq ⟨by decide,by decide⟩)⟩,rfl⟩)).1)) (by first|exact ⟨_,_,⟨by simp only [jc8,jdL,jdp,jdu];omega,au (aq ⟨by decide,by decide⟩)⟩,rfl⟩|exact ⟨_,_,⟨by omega,au (aq ⟨by decide,by decide⟩)⟩,rfl⟩)).2.1⟩,(by show o.length+1≤1000;omega)⟩,rfl⟩).1,?_,by omega,by omega,rfl⟩
     refine jdd (q44 _ ⟨_,_,⟨hA,aR all0 ⟨_,rfl,(q28 _ _ _ _ (by repeat (first|exact ok|exact ok1|exact ok2|refine am ?_|refine (q28 _ _ _ _ ?_ (by first|exact ⟨_,_,⟨by simp only [jc8,jdL,jdp,jdu];omega,au (aq ⟨by decide,by decide⟩)⟩,rfl⟩|exact ⟨_,_,⟨by omega,au (aq ⟨by decide,by decide⟩)⟩,rfl⟩)).1)) (by first|exact ⟨_,_,⟨by simp only [jc8,jdL,jdp,jdu];omega,au (aq ⟨by decide,by decide⟩)⟩,rfl⟩|exact ⟨_,_,⟨by omega,au (aq ⟨by decide,by decide⟩)⟩,rfl⟩)).2.1⟩,(by show o.length+1≤1000;omega)⟩,rfl⟩).2 ?_
     show o.length+1≤_
     omega)
theorem OLs.b0 {Y:OLs} (h:Y.ok) {a:Int} (k:inK .i64 a):OLs.ok { Y with a0:=a }:=⟨k,h.2⟩
theorem OLs.b1 {Y:OLs} (h:Y.ok) {a:Int} (k:inK .i64 a):OLs.ok { Y with a1:=a }:=⟨h.1,k,h.2.2⟩
theorem OLs.b2 {Y:OLs} (h:Y.ok) {a:Int} (k:inK .i64 a):OLs.ok { Y with a2:=a }:=⟨h.1,h.2.1,k,h.2.2.2⟩
theorem OLs.b3 {Y:OLs} (h:Y.ok) {s:List (List D)} (k:s.length≤8∧∀ r ∈ s,IntD r):OLs.ok { Y with sn:=s }:=⟨h.1,h.2.1,h.2.2.1,k,h.2.2.2.2⟩
theorem OLs.b4 {Y:OLs} (h:Y.ok) {t:ByteArray} (k:t.size≤8):OLs.ok { Y with tt:=t }:=⟨h.1,h.2.1,h.2.2.1,h.2.2.2.1,h.2.2.2.2.1,h.2.2.2.2.2.1,k,h.2.2.2.2.2.2.2⟩
theorem any15:AnyD Tryz.prog T 15 5 (fun m=>m=[]) (fun x:OLs=>.val true [.i .i64 x.a0,.i .i64 x.a1,.i .i64 x.a2,.sl false 3 x.sn,.i .i64 x.e.k,.i .i64 x.e.at_,.i .i64 x.e.c.id,.i .i64 x.e.c.ve,.i .i64 x.e.c.k,.s x.e.c.nm,.s x.e.c.cd,.i .i64 x.e.c.n,.s x.fr,.s x.tt,.i .i64 x.ce,.i .i64 x.ve,.sl false 76 x.rd]) (fun (m:List SV) (x:OLs)=>x.ok):=by
 obtain ⟨g24,k24,q24⟩:=any24
 obtain ⟨g28,k28,q28⟩:=any28
 obtain ⟨g27,k27,q27⟩:=any27
 refine AnyD.of (fun _=>zOL) (fun _ _=>rp) (dM (α:=OLs × Int × Int) (fun _ z=>(fun x:OLs=>.val true [.i .i64 x.a0,.i .i64 x.a1,.i .i64 x.a2,.sl false 3 x.sn,.i .i64 x.e.k,.i .i64 x.e.at_,.i .i64 x.e.c.id,.i .i64 x.e.c.ve,.i .i64 x.e.c.k,.s x.e.c.nm,.s x.e.c.cd,.i .i64 x.e.c.n,.s x.fr,.s x.tt,.i .i64 x.ce,.i .i64 x.ve,.sl false 76 x.rd]) z.1) (fun a z=>curU 5 a z.2.1 z.2.2) (post:=fun a z=>bo (rowsOf a) z.2.1∧(fun (m:List SV) (x:OLs)=>x.ok) a.tail z.1) (env:=envL [(24,spD 5 (fun m=>∃ w:Int,(0≤w∧w≤10)∧m=[.val false [.i .i64 w]]) (fun x:List (List D)=>.val false [.sl false 33 x]) g24),(29,(bM 5)),(28,spD 5 (fun m=>∃ (l:List (List D)) (b:Int),(l.length≤1048576∧inK .i64 b)∧m=[argS 33 l,.val false [.i .i64 b]]) (fun x:OLs=>.val true [.i .i64 x.a0,.i .i64 x.a1,.i .i64 x.a2,.sl true 3 x.sn,.i .i64 x.e.k,.i .i64 x.e.at_,.i .i64 x.e.c.id,.i .i64 x.e.c.ve,.i .i64 x.e.c.k,.s x.e.c.nm,.s x.e.c.cd,.i .i64 x.e.c.n,.s x.fr,.s x.tt,.i .i64 x.ce,.i .i64 x.ve,.sl true 76 x.rd]) g28),(27,spD 5 (fun m=>∃ l:List (List D),bT (l.length:Int)∧m=[argS 3 l]) (fun x:Int=>.val false [.i .i64 x]) g27)]) (N:=48) tabT (aa k24 (aa ok29 (aa k28 (aa k27 ae)))) mixed Tryz.func15 rfl Tryz.call15 Tryz.ntmps15 ?_)
 rintro cs args ⟨rows,i,h0,more,ok,hp,he⟩ hwf
 obtain ⟨rfl,rfl⟩:cs=curC 5 rows i h0∧args=more:=by simpa only [jdw,SV.tup.injEq,jdA,true_and,and_true] using he
 obtain rfl:=hp
 refine ⟨by simp,?_⟩
 clear he hwf
 rw [Tryz.results15]
 repeat' first
  | refine And.intro ?_ ?_
  | (intro h;simp only [reduceCtorEq] at h;done)
  | (intro h;rw [h])
  | intro h
 all_goals first
  | (show av _=true;kernel_rfl)
  | (show ba _ _=true;kernel_rfl)
  | exact Or.inr rfl
  | (show List.length _=_;rfl)
  | refine ⟨_,_,_,_,?_,⟨by decide,by decide⟩,rfl⟩
  | refine ⟨_,_,_,_,?_,⟨_,⟨by decide,by decide⟩,rfl⟩,rfl⟩
  | refine ⟨_,_,_,_,?_,⟨_,_,⟨jdd (q24 _ _ _ _ (by repeat (first|exact ok|exact ok1|exact ok2|refine am ?_|refine (q24 _ _ _ _ ?_ ⟨_,⟨by decide,by decide⟩,rfl⟩).1|refine (q27 _ _ _ _ ?_ ⟨_,⟨by decide,by decide⟩,rfl⟩).1)) ⟨_,⟨by decide,by decide⟩,rfl⟩).2.2 (by decide),au (aq ⟨by decide,by decide⟩)⟩,rfl⟩,rfl⟩
  | exact jdR _
  | refine len3I (q28 _ _ _ _ ?_ ⟨_,_,⟨jdd (q24 _ _ _ _ ?_ ⟨_,⟨by decide,by decide⟩,rfl⟩).2.2 (by decide),au (aq ⟨by decide,by decide⟩)⟩,rfl⟩).2.2
  | refine jcb (q28 _ _ _ _ ?_ ⟨_,_,⟨jdd (q24 _ _ _ _ ?_ ⟨_,⟨by decide,by decide⟩,rfl⟩).2.2 (by decide),au (aq ⟨by decide,by decide⟩)⟩,rfl⟩).2.2
  | refine len3M (q28 _ _ _ _ ?_ ⟨_,_,⟨jdd (q24 _ _ _ _ ?_ ⟨_,⟨by decide,by decide⟩,rfl⟩).2.2 (by decide),au (aq ⟨by decide,by decide⟩)⟩,rfl⟩).2.2
  | refine len3B (q28 _ _ _ _ ?_ ⟨_,_,⟨jdd (q24 _ _ _ _ ?_ ⟨_,⟨by decide,by decide⟩,rfl⟩).2.2 (by decide),au (aq ⟨by decide,by decide⟩)⟩,rfl⟩).2.2
  | (refine ⟨(⟨(g27 _).1,_,_,_,⟨_,_,⟨_,_,_,_,_,_⟩⟩,_,_,_,_,_⟩,_,_),⟨?_,?_⟩,rfl,rfl,True.intro⟩;rotate_left;focus (refine OLs.b0 (q28 _ _ _ _ ?_ ⟨_,_,⟨jdd (q24 _ _ _ _ ?_ ⟨_,⟨by decide,by decide⟩,rfl⟩).2.2 (by decide),au (aq ⟨by decide,by decide⟩)⟩,rfl⟩).2.1 ((q27 _ _ _ _ ?_ ⟨_,⟨by decide,by decide⟩,rfl⟩).2 (inK .i64) kk0 (by intro r hr;simp only [az,jdf,jdc,jde,jda,or_false] at hr;rcases hr with rfl|rfl|rfl <;> exact ⟨by decide,by decide⟩))))
  | (refine ⟨(⟨_,(g27 _).1,_,_,⟨_,_,⟨_,_,_,_,_,_⟩⟩,_,_,_,_,_⟩,_,_),⟨?_,?_⟩,rfl,rfl,True.intro⟩;rotate_left;focus (refine OLs.b1 (q28 _ _ _ _ ?_ ⟨_,_,⟨jdd (q24 _ _ _ _ ?_ ⟨_,⟨by decide,by decide⟩,rfl⟩).2.2 (by decide),au (aq ⟨by decide,by decide⟩)⟩,rfl⟩).2.1 ((q27 _ _ _ _ ?_ ⟨_,⟨by decide,by decide⟩,rfl⟩).2 (inK .i64) kk0 (by intro r hr;simp only [az,jdf,jdc,jde,jda,or_false] at hr;rcases hr with rfl|rfl <;> exact ⟨by decide,by decide⟩))))
  | (refine ⟨(⟨_,_,_,_++_,⟨_,_,⟨_,_,_,_,_,_⟩⟩,_,_,_,_,_⟩,_,_),⟨?_,?_⟩,rfl,rfl,True.intro⟩;rotate_left;focus (refine OLs.b3 (q28 _ _ _ _ ?_ ⟨_,_,⟨jdd (q24 _ _ _ _ ?_ ⟨_,⟨by decide,by decide⟩,rfl⟩).2.2 (by decide),au (aq ⟨by decide,by decide⟩)⟩,rfl⟩).2.1 ⟨jdd (len3L (q28 _ _ _ _ ?_ ⟨_,_,⟨jdd (q24 _ _ _ _ ?_ ⟨_,⟨by decide,by decide⟩,rfl⟩).2.2 (by decide),au (aq ⟨by decide,by decide⟩)⟩,rfl⟩).2.2) (by decide),lw (q28 _ _ _ _ ?_ ⟨_,_,⟨jdd (q24 _ _ _ _ ?_ ⟨_,⟨by decide,by decide⟩,rfl⟩).2.2 (by decide),au (aq ⟨by decide,by decide⟩)⟩,rfl⟩).2.1.2.2.2.1.2 (aR all0 ⟨0,rfl,kk0⟩)⟩))
  | (refine ⟨(⟨_,_,(dP _ _ _).tmod _,_,⟨_,_,⟨_,_,_,_,_,_⟩⟩,_,_,_,_,_⟩,_,_),⟨?_,?_⟩,rfl,rfl,True.intro⟩;rotate_left;focus (refine OLs.b2 (q28 _ _ _ _ ?_ ⟨_,_,⟨jdd (q24 _ _ _ _ ?_ ⟨_,⟨by decide,by decide⟩,rfl⟩).2.2 (by decide),au (aq ⟨by decide,by decide⟩)⟩,rfl⟩).2.1 (au (aq ⟨by decide,by decide⟩))))
  | (refine ⟨(⟨_,_,_,aZ _ _ _ _,⟨_,_,⟨_,_,_,_,_,_⟩⟩,_,_,_,_,_⟩,_,_),⟨?_,?_⟩,rfl,rfl,True.intro⟩;rotate_left;focus (refine OLs.b3 (q28 _ _ _ _ ?_ ⟨_,_,⟨jdd (q24 _ _ _ _ ?_ ⟨_,⟨by decide,by decide⟩,rfl⟩).2.2 (by decide),au (aq ⟨by decide,by decide⟩)⟩,rfl⟩).2.1 ⟨len3P (q28 _ _ _ _ ?_ ⟨_,_,⟨jdd (q24 _ _ _ _ ?_ ⟨_,⟨by decide,by decide⟩,rfl⟩).2.2 (by decide),au (aq ⟨by decide,by decide⟩)⟩,rfl⟩).2.2,zD (q28 _ _ _ _ ?_ ⟨_,_,⟨jdd (q24 _ _ _ _ ?_ ⟨_,⟨by decide,by decide⟩,rfl⟩).2.2 (by decide),au (aq ⟨by decide,by decide⟩)⟩,rfl⟩).2.1.2.2.2.1.2 (jcb (q28 _ _ _ _ ?_ ⟨_,_,⟨jdd (q24 _ _ _ _ ?_ ⟨_,⟨by decide,by decide⟩,rfl⟩).2.2 (by decide),au (aq ⟨by decide,by decide⟩)⟩,rfl⟩).2.2) ((q27 _ _ _ _ ?_ ⟨_,⟨by decide,by decide⟩,rfl⟩).2 (inK .i64) kk0 (by intro r hr;simp only [az,jdf,jdc,jde,jda,or_false] at hr;rcases hr with rfl|rfl|rfl <;> exact ⟨by decide,by decide⟩))⟩))
  | (refine ⟨(⟨_,_,_,_,⟨_,_,⟨_,_,_,_,_,_⟩⟩,_,⟨#[121]⟩,_,_,_⟩,_,_),⟨?_,?_⟩,rfl,rfl,True.intro⟩;rotate_left;focus (refine OLs.b4 (q28 _ _ _ _ ?_ ⟨_,_,⟨jdd (q24 _ _ _ _ ?_ ⟨_,⟨by decide,by decide⟩,rfl⟩).2.2 (by decide),au (aq ⟨by decide,by decide⟩)⟩,rfl⟩).2.1 (jd8 rfl)))
  | (refine ⟨(⟨_,_,_,_,⟨_,_,⟨_,_,_,_,_,_⟩⟩,_,_,_,_,_⟩,kK _ _,kL _),⟨?_,?_⟩,rfl,rfl,True.intro⟩;rotate_left;focus (refine (q28 _ _ _ _ ?_ ⟨_,_,⟨jdd (q24 _ _ _ _ ?_ ⟨_,⟨by decide,by decide⟩,rfl⟩).2.2 (by decide),au (aq ⟨by decide,by decide⟩)⟩,rfl⟩).2.1))
 all_goals repeat (first|exact ok|exact ok1|exact ok2|refine am ?_|refine (q24 _ _ _ _ ?_ ⟨_,⟨by decide,by decide⟩,rfl⟩).1|refine (q28 _ _ _ _ ?_ ⟨_,_,⟨jdd (q24 _ _ _ _ (by repeat (first|exact ok|exact ok1|exact ok2|refine am ?_|refine (q24 _ _ _ _ ?_ ⟨_,⟨by decide,by decide⟩,rfl⟩).1|refine (q27 _ _ _ _ ?_ ⟨_,⟨by decide,by decide⟩,rfl⟩).1)) ⟨_,⟨by decide,by decide⟩,rfl⟩).2.2 (by decide),au (aq ⟨by decide,by decide⟩)⟩,rfl⟩).1|refine (q27 _ _ _ _ ?_ ⟨_,⟨by decide,by decide⟩,rfl⟩).1)
end Go.Proofs.YtdkofgjbbdbglaaGreatDoor.Ab
