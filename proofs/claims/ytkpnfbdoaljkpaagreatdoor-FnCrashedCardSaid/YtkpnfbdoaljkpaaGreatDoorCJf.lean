/- Drawn operations and logs: printed by a program of this -/
import Derived.Test.YtkpnfbdoaljkpaaGreatDoorCJe
namespace Go.Proofs.YtkpnfbdoaljkpaaGreatDoor.Ab
open Go.RowKit
set_option linter.all false
set_option maxRecDepth 100000
set_option maxHeartbeats 2000000
theorem any137:AnyX Tryz.prog T 137 (fun a=>∃ l:List (List D),l.length≤1048576∧a=[argS 33 l]) (fun x:Int=>.val false [.i .i64 x]) (fun x:Int=>True):=by
 refine AnyX.of (0) (True.intro) (fokA (fun _ (x:Int)=>.val false [.i .i64 x]) (post:=fun _ (x:Int)=>True) (env:=envL [(47,ww)]) (N:=19) tabT (aa xk47 ae) mixed Tryz.func137 rfl Tryz.call137 Tryz.ntmps137 ?_)
 rintro args ⟨l,hlm,rfl⟩ hwf
 refine ⟨by simp,?_⟩
 clear hwf
 rw [Tryz.results137]
 repeat' first
  | (refine And.intro ?_ ?_)
  | (intro h;simp only [reduceCtorEq] at h;done)
  | (intro h;rw [h])
  | (intro h)
 all_goals first
  | (show ac _=true;kernel_rfl)|(show aj _ _=true;kernel_rfl)|exact True.intro|exact Or.inr rfl|exact Or.inl rfl
  | skip
 refine ar (Q:=_) [0,3,4] [] (fun n st=>∃ (i:Nat) (m:Int),st=([argS 33 l,.val false [.i .i64 m],.val false [.i .i64 (i:Int)]],[])∧i≤l.length∧n=l.length - i) ?_ ?_
 · exact ⟨rfl,l.length,0,_,rfl,jaU _,rfl⟩
 rintro n st ⟨i,m,rfl,hle,rfl⟩
 repeat' first
  | (refine And.intro ?_ ?_)
  | (intro h;simp only [reduceCtorEq] at h;done)
  | (intro h;rw [h])
  | (intro h)
 all_goals first
  | (show ac _=true;kernel_rfl)|(show aj _ _=true;kernel_rfl)|exact True.intro|exact Or.inr rfl|exact Or.inl rfl
  | with_reducible exact ja7 _
  | (have hi:i < l.length:=ltN' (by with_reducible assumption)
     first
      | with_reducible exact jaT (by with_reducible assumption)
      | (show (Int.toNat (i:Int)) < _;rw [jbf];exact hi)
      | (show (i:Int) < _;omega)
      | exact ⟨_,_,rfl⟩
      | exact ⟨_,True.intro,rfl,True.intro⟩
      | (refine ⟨l.length - (i+1),by omega,i+1,_,congrArg (fun z:Int=>(([argS 33 l,.val false [.i .i64 _],.val false [.i .i64 z]],[]):Snap)) (bU hi hlm),by omega,  rfl⟩)
      | (show aL _ _;exact rfl))
  | exact ⟨_,_,rfl⟩
  | exact ⟨_,True.intro,rfl,True.intro⟩
  | (refine ⟨l.length - (i+1),by omega,i+1,_,congrArg (fun z:Int=>(([argS 33 l,.val false [.i .i64 _],.val false [.i .i64 z]],[]):Snap)) (bU hi hlm),by omega,  rfl⟩)
  | (show aL _ _;exact rfl)
  | skip
theorem any139:AnyX Tryz.prog T 139 (fun a=>∃ (l:List (List D)) (b:Int),l.length≤1048576∧a=[argS 33 l,.val false [.i .i64 b]]) (fun x:Int=>.val false [.i .i64 x]) (fun x:Int=>inK .i64 x):=by
 refine AnyX.of (0) (kk0) (fokA (fun _ (x:Int)=>.val false [.i .i64 x]) (post:=fun _ (x:Int)=>inK .i64 x) (env:=envL []) (N:=23) tabT ae mixed Tryz.func139 rfl Tryz.call139 Tryz.ntmps139 ?_)
 rintro args ⟨l,b,hlm,rfl⟩ hwf
 refine ⟨by simp,?_⟩
 clear hwf
 rw [Tryz.results139]
 repeat' first
  | (refine And.intro ?_ ?_)
  | (intro h;simp only [reduceCtorEq] at h;done)
  | (intro h;rw [h])
  | (intro h)
 all_goals first
  | (show ac _=true;kernel_rfl)|(show aj _ _=true;kernel_rfl)|exact True.intro|exact Or.inr rfl|exact Or.inl rfl
  | skip
 refine ar (Q:=_) [0,1,5,6] [] (fun n st=>∃ (i:Nat) (m:Int),st=([argS 33 l,.val false [.i .i64 b],.val false [.i .i64 m],.val false [.i .i64 (i:Int)]],[])∧i≤l.length∧inK .i64 m∧n=l.length - i) ?_ ?_
 · exact ⟨rfl,l.length,0,_,rfl,jaU _,kk0,rfl⟩
 rintro n st ⟨i,m,rfl,hle,hm,rfl⟩
 repeat' first
  | (refine And.intro ?_ ?_)
  | (intro h;simp only [reduceCtorEq] at h;done)
  | (intro h;rw [h])
  | (intro h)
 all_goals first
  | (show ac _=true;kernel_rfl)|(show aj _ _=true;kernel_rfl)|exact True.intro|exact Or.inr rfl|exact Or.inl rfl
  | with_reducible exact ja7 _
  | (have hi:i < l.length:=ltN' (by with_reducible assumption)
     first
      | with_reducible exact jaT (by with_reducible assumption)
      | (show (Int.toNat (i:Int)) < _;rw [jbf];exact hi)
      | (show (i:Int) < _;omega)
      | exact ⟨_,hm,rfl,True.intro⟩
      | (refine ⟨l.length - (i+1),by omega,i+1,_,congrArg (fun z:Int=>(([argS 33 l,.val false [.i .i64 b],.val false [.i .i64 _],.val false [.i .i64 z]],[]):Snap)) (bU hi hlm),by omega,hm,rfl⟩)
      | (refine ⟨l.length - (i+1),by omega,i+1,_,congrArg (fun z:Int=>(([argS 33 l,.val false [.i .i64 b],.val false [.i .i64 _],.val false [.i .i64 z]],[]):Snap)) (bU hi hlm),by omega,aK _ _,rfl⟩)
      | (show aL _ _;exact rfl))
  | exact ⟨_,hm,rfl,True.intro⟩
  | (refine ⟨l.length - (i+1),by omega,i+1,_,congrArg (fun z:Int=>(([argS 33 l,.val false [.i .i64 b],.val false [.i .i64 _],.val false [.i .i64 z]],[]):Snap)) (bU hi hlm),by omega,hm,rfl⟩)
  | (refine ⟨l.length - (i+1),by omega,i+1,_,congrArg (fun z:Int=>(([argS 33 l,.val false [.i .i64 b],.val false [.i .i64 _],.val false [.i .i64 z]],[]):Snap)) (bU hi hlm),by omega,aK _ _,rfl⟩)
  | (show aL _ _;exact rfl)
  | skip
theorem any174:AnyX Tryz.prog T 174 (fun a=>∃ x y:List D,a=[argG cO x,argG cO y]) (fun x:Bool=>.val false [.b x]) (fun x:Bool=>True):=by
 refine AnyX.of (false) (True.intro) (fokA (fun _ (x:Bool)=>.val false [.b x]) (post:=fun _ (x:Bool)=>True) (env:=envL []) (N:=24) tabT ae mixed Tryz.func174 rfl Tryz.call174 Tryz.ntmps174 ?_)
 rintro args ⟨x,y,rfl⟩ hwf
 refine ⟨by simp,?_⟩
 clear hwf
 rw [Tryz.results174]
 repeat' first
  | (refine And.intro ?_ ?_)
  | (intro h;simp only [reduceCtorEq] at h;done)
  | (intro h;rw [h])
  | (intro h)
 all_goals first
  | (show ac _=true;kernel_rfl)|(show aj _ _=true;kernel_rfl)|exact True.intro|exact Or.inr rfl|exact Or.inl rfl
  | exact ⟨_,True.intro,rfl,True.intro⟩
  | skip
theorem any173:AnyX Tryz.prog T 173 (fun a=>∃ (l:List (List D)) (r:List D),l.length≤1048576∧a=[argS 33 l,argG cO r]) (fun x:Int=>.val false [.i .i64 x]) (fun x:Int=>True):=by
 refine AnyX.of (0) (True.intro) (fokA (fun _ (x:Int)=>.val false [.i .i64 x]) (post:=fun _ (x:Int)=>True) (env:=envL []) (N:=31) tabT ae mixed Tryz.func173 rfl Tryz.call173 Tryz.ntmps173 ?_)
 rintro args ⟨l,r,hlm,rfl⟩ hwf
 refine ⟨by simp,?_⟩
 clear hwf
 rw [Tryz.results173]
 repeat' first
  | (refine And.intro ?_ ?_)
  | (intro h;simp only [reduceCtorEq] at h;done)
  | (intro h;rw [h])
  | (intro h)
 all_goals first
  | (show ac _=true;kernel_rfl)|(show aj _ _=true;kernel_rfl)|exact True.intro|exact Or.inr rfl|exact Or.inl rfl
  | skip
 refine ar (Q:=_) [0,3,5] [3] (fun n st=>∃ (i:Nat),st=([argS 33 l,.ptr 3 1 0,.val false [.i .i64 (i:Int)]],[(1,(rowC cO r).map fun c=>.val false [c])])∧i≤l.length∧n=l.length - i) ?_ ?_
 · exact ⟨rfl,l.length,0,rfl,jaU _,rfl⟩
 rintro n st ⟨i,rfl,hle,rfl⟩
 repeat' first
  | (refine And.intro ?_ ?_)
  | (intro h;simp only [reduceCtorEq] at h;done)
  | (intro h;rw [h])
  | (intro h)
 all_goals first
  | (show ac _=true;kernel_rfl)|(show aj _ _=true;kernel_rfl)|exact True.intro|exact Or.inr rfl|exact Or.inl rfl
  | with_reducible exact ja7 _
  | (have hi:i < l.length:=ltN' (by with_reducible assumption)
     first
      | with_reducible exact jaT (by with_reducible assumption)
      | (show (Int.toNat (i:Int)) < _;rw [jbf];exact hi)
      | (show (i:Int) < _;omega)
      | exact ⟨_,True.intro,rfl,True.intro⟩
      | exact ⟨_,True.intro,rfl,by decide,True.intro⟩
      | (refine ⟨l.length - (i+1),by omega,i+1,congrArg (fun z:Int=>(([argS 33 l,.ptr 3 1 0,.val false [.i .i64 z]],[(1,(rowC cO r).map fun c=>.val false [c])]):Snap)) (bU hi hlm),by omega,  rfl⟩)
      | (show aL _ _;exact rfl))
  | exact ⟨_,True.intro,rfl,True.intro⟩
  | exact ⟨_,True.intro,rfl,by decide,True.intro⟩
  | (refine ⟨l.length - (i+1),by omega,i+1,congrArg (fun z:Int=>(([argS 33 l,.ptr 3 1 0,.val false [.i .i64 z]],[(1,(rowC cO r).map fun c=>.val false [c])]):Snap)) (bU hi hlm),by omega,  rfl⟩)
  | (show aL _ _;exact rfl)
  | skip
theorem any175:AnyX Tryz.prog T 175 (fun a=>∃ x:OLs,x.ok∧a=[argG cO x.row]) (fun x:OLs=>.val true [.i .i64 x.a0,.i .i64 x.a1,.i .i64 x.a2,.sl true 3 x.sn,.i .i64 x.e.k,.i .i64 x.e.at_,.i .i64 x.e.c.id,.i .i64 x.e.c.ve,.i .i64 x.e.c.k,.s x.e.c.nm,.s x.e.c.cd,.i .i64 x.e.c.n,.s x.fr,.s x.tt,.i .i64 x.ce,.i .i64 x.ve,.sl true 96 x.rd]) (fun x:OLs=>x.ok):=by
 refine AnyX.of (zOL) (xQ) (fokA (fun _ (x:OLs)=>.val true [.i .i64 x.a0,.i .i64 x.a1,.i .i64 x.a2,.sl true 3 x.sn,.i .i64 x.e.k,.i .i64 x.e.at_,.i .i64 x.e.c.id,.i .i64 x.e.c.ve,.i .i64 x.e.c.k,.s x.e.c.nm,.s x.e.c.cd,.i .i64 x.e.c.n,.s x.fr,.s x.tt,.i .i64 x.ce,.i .i64 x.ve,.sl true 96 x.rd]) (post:=fun _ (x:OLs)=>x.ok) (env:=envL [(206,(cpS 96))]) (N:=13) tabT (aa ok206 ae) mixed Tryz.func175 rfl Tryz.call175 Tryz.ntmps175 ?_)
 rintro args ⟨x,hx,rfl⟩ hwf
 refine ⟨by simp,?_⟩
 clear hwf
 have hsn:=hx.2.2.2.1.1
 have hrd:=hx.2.2.2.2.2.2.2.2.2.1
 rw [Tryz.results175]
 repeat' first
  | (refine And.intro ?_ ?_)
  | (intro h;simp only [reduceCtorEq] at h;done)
  | (intro h;rw [h])
  | (intro h)
 all_goals first
  | (show ac _=true;kernel_rfl)|(show aj _ _=true;kernel_rfl)|exact True.intro|exact Or.inr rfl|exact Or.inl rfl
  | exact ⟨_,rds_w hx.2.2.2.2.2.2.2.2.2,rfl⟩
  | (show 0+x.sn.length≤maxLen;simp only [maxLen];omega)
  | (show (0+x.sn.length) * 8≤140737488355328;omega)
  | exact ⟨x,hx,rfl,True.intro⟩
  | skip
theorem any136:AnyY Tryz.prog T 136 (fun m=>∃ a b:List (List D),((∀ y ∈ a,OpD y)∧(∀ y ∈ b,OpD y)∧a.length+b.length≤1000)∧m=[argS 33 a,argS 33 b]) (fun x:List (List D)=>.val false [.sl false 33 x]) (fun (m:List SV) (x:List (List D))=>(∀ y ∈ x,OpD y)∧x.length≤len2 m):=by
 obtain ⟨g173,k173,q173⟩:=any173
 obtain ⟨g174,k174,q174⟩:=any174
 obtain ⟨g175,k175,q175⟩:=any175
 refine AnyY.of (fun _=>[]) (fun _ _=>⟨all0,jaU _⟩) (fokA (fun _ (x:List (List D))=>.val false [.sl false 33 x]) (post:=fun m (x:List (List D))=>(∀ y ∈ x,OpD y)∧x.length≤len2 m) (env:=envL [(173, { pre:=fun a=>∃ (l:List (List D)) (r:List D),l.length≤1048576∧a=[argS 33 l,argG cO r],res:=fun a=>(fun x:Int=>.val false [.i .i64 x]) (g173 a) }),(174, { pre:=fun a=>∃ x y:List D,a=[argG cO x,argG cO y],res:=fun a=>(fun x:Bool=>.val false [.b x]) (g174 a) }),(175, { pre:=fun a=>∃ x:OLs,x.ok∧a=[argG cO x.row],res:=fun a=>(fun x:OLs=>.val true [.i .i64 x.a0,.i .i64 x.a1,.i .i64 x.a2,.sl true 3 x.sn,.i .i64 x.e.k,.i .i64 x.e.at_,.i .i64 x.e.c.id,.i .i64 x.e.c.ve,.i .i64 x.e.c.k,.s x.e.c.nm,.s x.e.c.cd,.i .i64 x.e.c.n,.s x.fr,.s x.tt,.i .i64 x.ce,.i .i64 x.ve,.sl true 96 x.rd]) (g175 a) })]) (N:=65) tabT (aa k173 (aa k174 (aa k175 ae))) mixed Tryz.func136 rfl Tryz.call136 Tryz.ntmps136 ?_)
 rintro args ⟨a,b,⟨ha,hb,hn⟩,rfl⟩ hwf
 refine ⟨by simp,?_⟩
 clear hwf
 have hab:(a++b).length=a.length+b.length:=jaV
 have hO:∀ y ∈ a++b,OpD y:=m7 ha hb
 have hlm:(a++b).length≤1048576:=by omega
 rw [Tryz.results136]
 repeat' first
  | (refine And.intro ?_ ?_)
  | (intro h;simp only [reduceCtorEq] at h;done)
  | (intro h;rw [h])
  | (intro h)
 all_goals first
  | (show ac _=true;kernel_rfl)|(show aj _ _=true;kernel_rfl)|exact True.intro|exact Or.inr rfl|exact Or.inl rfl
  | (show 0+a.length≤maxLen;simp only [maxLen];omega)
  | (show (0+a.length) * 200≤140737488355328;omega)
  | (show a.length+b.length≤maxLen;simp only [maxLen];omega)
  | (show (a.length+b.length) * 200≤140737488355328;omega)
  | skip
 refine ar (Q:=_) [5,6,7] [] (fun n st=>∃ (i:Nat) (ob:Bool) (o:List (List D)),st=([.val false [.sl ob 33 o],.val false [.sl true 33 (a++b)],.val false [.i .i64 (i:Int)]],[])∧i≤(a++b).length∧(∀ y ∈ o,OpD y)∧o.length≤i∧n=(a++b).length - i) ?_ ?_
 · exact ⟨rfl,(a++b).length,0,_,_,rfl,jaU _,all0,ja9 _,rfl⟩
 rintro n st ⟨i,ob,o,rfl,hle,hA,hol,rfl⟩
 cases ob
 all_goals repeat' first
  | (refine And.intro ?_ ?_)
  | (intro h;simp only [reduceCtorEq] at h;done)
  | (intro h;rw [h])
  | (intro h)
 all_goals first
  | (show ac _=true;kernel_rfl)|(show aj _ _=true;kernel_rfl)|exact True.intro|exact Or.inr rfl|exact Or.inl rfl
  | with_reducible exact ja7 _
  | (have hi:i < (a++b).length:=ltN' (by with_reducible assumption)
     first
      | with_reducible exact jaT (by with_reducible assumption)
      | (show (Int.toNat (i:Int)) < _;rw [jbf];exact hi)
      | (show (i:Int) < _;omega)
      | exact ⟨_,_,(show o.length≤1048576 by omega),rfl⟩
      | (show aL _ _;rfl)
      | exact ⟨_,⟨hA,(show o.length≤len2 [argS 33 a,argS 33 b] from (show o.length≤a.length+b.length by omega))⟩,rfl,True.intro⟩
      | (refine ⟨(a++b).length - (i+1),by omega,i+1,_,_,congrArg (fun z:Int=>(([.val false [.sl _ 33 _],.val false [.sl true 33 (a++b)],.val false [.i .i64 z]],[]):Snap)) (bU hi hlm),by omega,hA,by omega,rfl⟩)
      | (show aL _ _;exact rfl))
  | exact ⟨_,_,(show o.length≤1048576 by omega),rfl⟩
  | (show aL _ _;rfl)
  | exact ⟨_,⟨hA,(show o.length≤len2 [argS 33 a,argS 33 b] from (show o.length≤a.length+b.length by omega))⟩,rfl,True.intro⟩
  | (refine ⟨(a++b).length - (i+1),by omega,i+1,_,_,congrArg (fun z:Int=>(([.val false [.sl _ 33 _],.val false [.sl true 33 (a++b)],.val false [.i .i64 z]],[]):Snap)) (bU hi hlm),by omega,hA,by omega,rfl⟩)
  | (show aL _ _;exact rfl)
  | skip
 all_goals have hi:i < (a++b).length:=by first|exact ltN' (by with_reducible assumption)
 all_goals refine ar (Q:=_) [5,6,7,8] [] (fun n2 st2=>∃ (k:Nat) (ob2:Bool),st2=([.val false [.sl ob2 33 o],.val false [.sl true 33 (a++b)],.val false [.i .i64 (i:Int)],.val false [.i .i64 (k:Int)]],[])∧k≤o.length∧n2=o.length - k) ?_ ?_
 all_goals first
  | exact ⟨rfl,o.length,0,_,rfl,jaU _,rfl⟩
  | skip
 all_goals rintro n2 st2 ⟨k,ob2,rfl,kle,rfl⟩
 all_goals cases ob2
 all_goals repeat' first
  | (refine And.intro ?_ ?_)
  | (intro h;simp only [reduceCtorEq] at h;done)
  | (intro h;rw [h])
  | (intro h)
 all_goals first
  | (show ac _=true;kernel_rfl)|(show aj _ _=true;kernel_rfl)|exact True.intro|exact Or.inr rfl|exact Or.inl rfl
  | with_reducible exact ja7 _
  | (show (Int.toNat (i:Int)) < _;rw [jbf];exact hi)
  | (show (i:Int) < (((a++b).length:Nat):Int);omega)
  | (show (k:Int) < ((o.length:Nat):Int);have hk:k < o.length:=ltN' (by with_reducible assumption);omega)
  | (show (Int.toNat (k:Int)) < o.length;have hk:k < o.length:=ltN' (by with_reducible assumption);rw [jbf];exact hk)
  | exact ⟨_,_,rfl⟩
  | (show aL _ _;exact rfl)
  | exact jbE _
  | (show (k:Int)≤((o.length:Nat):Int);omega)
  | ((with_reducible show (_:Nat)≤_);simp only [jaV,jby,jbc,ja8,jbh,maxLen,jbf];omega)
  | (obtain ⟨x,hx,hok⟩:=OpD.at hO (show Int.toNat (i:Int) < _ by rw [jbf];exact hi)
     exact ⟨x,hok,congrArg (fun r=>[argG cO r]) hx⟩)
  | (have hk:k < o.length:=ltN' (by with_reducible assumption)
     exact ⟨o.length - (k+1),by omega,k+1,_,congrArg (fun z:Int=>(([.val false [.sl _ 33 o],.val false [.sl true 33 (a++b)],.val false [.i .i64 (i:Int)],.val false [.i .i64 z]],[]):Snap)) (bU hk (by omega)),by omega,rfl⟩)
  | (refine ⟨(a++b).length - (i+1),by omega,i+1,_,_,congrArg (fun z:Int=>(([.val false [.sl _ 33 _],.val false [.sl true 33 (a++b)],.val false [.i .i64 z]],[]):Snap)) (bU hi hlm),by omega,?_,?_,rfl⟩
     · exact m7 (m7 (m7 all0 (th (tg hA _) _)) (aS all0 ⟨_,rfl,q175 _⟩)) (th (tg hA _) _)
     · simp only [jaV,jby,jbc,ja8,jbh,jbf];omega)
  | skip
def spNV:FSpec where
 pre args:=∃ n:Int,args=[.val false [.i .i64 n]]
 res args:=match args with
  | [.val _ [.i _ n]]=>.val true [.i .i64 1,.i .i64 n,.i .i64 0,.s ⟨#[]⟩,.sl true 53 [],.sl true 9 [],.sl true 131 []]
  | _=>.none
theorem okNV:FOk Tryz.prog T 103 spNV:=by
 refine fok (env:=envL []) (N:=5) tabT ae mixed Tryz.func103 rfl Tryz.call103 Tryz.ntmps103 ?_
 rintro args ⟨n,rfl⟩ hwf
 refine ⟨by simp,?_⟩
 clear hwf
 rw [Tryz.results103]
 repeat' first
  | (refine And.intro ?_ ?_)
  | (intro h;simp only [reduceCtorEq] at h;done)
  | (intro h;rw [h])
  | (intro h)
 all_goals first
  | (show ac _=true;kernel_rfl)|(show aj _ _=true;kernel_rfl)|exact True.intro|exact Or.inr rfl|exact Or.inl rfl
  | exact rfl
  | skip
structure RDs where
 k:Int
 n:Int
 t:Int
 s:ByteArray
instance:Inhabited RDs:=⟨⟨0,0,0,ByteArray.empty⟩⟩
theorem any178:AnyD Tryz.prog T 178 5 (fun m=>m=[]) (fun x:RDs=>.val true [.i .i64 x.k,.i .i64 x.n,.i .i64 x.t,.s x.s,.i .i64 0,.i .i64 0,.i .i64 0,.s ⟨#[]⟩,.sl true 53 [],.sl true 9 [],.sl true 131 []]) (fun (m:List SV) (x:RDs)=>inK .i64 x.k∧inK .i64 x.n∧inK .i64 x.t∧x.s.size≤8):=by
 refine AnyD.of (fun _=>⟨0,0,0,⟨#[]⟩⟩) (fun _ _=>⟨kk0,kk0,kk0,jaU _⟩) (dN (α:=RDs × Int × Int) (fun _ z=>(fun x:RDs=>.val true [.i .i64 x.k,.i .i64 x.n,.i .i64 x.t,.s x.s,.i .i64 0,.i .i64 0,.i .i64 0,.s ⟨#[]⟩,.sl true 53 [],.sl true 9 [],.sl true 131 []]) z.1) (fun a z=>curU 5 a z.2.1 z.2.2) (post:=fun a z=>bh (rowsOf a) z.2.1∧(fun (m:List SV) (x:RDs)=>inK .i64 x.k∧inK .i64 x.n∧inK .i64 x.t∧x.s.size≤8) a.tail z.1) (env:=envL [(46,(bH 5)),(140,(eh 5 9))]) (N:=14) tabT (aa ok46 (aa ok140 ae)) mixed Tryz.func178 rfl Tryz.call178 Tryz.ntmps178 ?_)
 rintro cs args ⟨rows,i,h0,more,ok,hp,he⟩ hwf
 obtain ⟨rfl,rfl⟩:cs=curC 5 rows i h0∧args=more:=by simpa only [jbj,SV.tup.injEq,jbn,true_and,and_true] using he
 obtain rfl:=hp
 refine ⟨by simp,?_⟩
 clear he hwf
 rw [Tryz.results178]
 repeat' first
  | (refine And.intro ?_ ?_)
  | (intro h;simp only [reduceCtorEq] at h;done)
  | (intro h;rw [h])
  | (intro h)
 all_goals first
  | (show ac _=true;kernel_rfl)|(show aj _ _=true;kernel_rfl)|exact True.intro|exact Or.inr rfl|exact Or.inl rfl
  | (show aL _ _;rfl)
  | (show List.length _=_;rfl)
  | refine ⟨_,_,_,_,?_,⟨by decide,by decide⟩,rfl⟩
  | refine ⟨_,_,_,?_,rfl⟩
  | (refine ⟨(⟨_,_,_,_⟩,_,_),⟨?_,?_⟩,rfl,rfl,True.intro⟩;rotate_left;focus (exact ⟨aK _ _,ax (av ⟨by decide,by decide⟩),ax (av ⟨by decide,by decide⟩),ah (P:=fun t=>t.size≤8) (jaU _) (by intro r hr;simp only [az,ja2,jaZ,ja1,jaX,or_false] at hr;rcases hr with rfl|rfl|rfl|rfl <;> decide) _⟩))
  | skip
 all_goals repeat (first|exact ok|exact ok1|exact ok2|refine am ?_)
theorem any141:AnyD Tryz.prog T 141 5 (fun m=>m=[]) (fun x:List (List D)=>.val false [.sl true 96 x]) (fun (m:List SV) (x:List (List D))=>x.length≤8∧∀ r ∈ x,RdD r):=by
 obtain ⟨g178,k178,q178⟩:=any178
 refine AnyD.of (fun _=>[]) (fun _ _=>⟨jaU _,all0⟩) (dN (α:=List (List D) × Int × Int) (fun _ z=>(fun x:List (List D)=>.val false [.sl true 96 x]) z.1) (fun a z=>curU 5 a z.2.1 z.2.2) (post:=fun a z=>bh (rowsOf a) z.2.1∧(fun (m:List SV) (x:List (List D))=>x.length≤8∧∀ r ∈ x,RdD r) a.tail z.1) (env:=envL [(46,(bH 5)),(178,spD 5 (fun m=>m=[]) (fun x:RDs=>.val true [.i .i64 x.k,.i .i64 x.n,.i .i64 x.t,.s x.s,.i .i64 0,.i .i64 0,.i .i64 0,.s ⟨#[]⟩,.sl true 53 [],.sl true 9 [],.sl true 131 []]) g178),(103,spNV)]) (N:=34) tabT (aa ok46 (aa k178 (aa okNV ae))) mixed Tryz.func141 rfl Tryz.call141 Tryz.ntmps141 ?_)
 rintro cs args ⟨rows,i,h0,more,ok,hp,he⟩ hwf
 obtain ⟨rfl,rfl⟩:cs=curC 5 rows i h0∧args=more:=by simpa only [jbj,SV.tup.injEq,jbn,true_and,and_true] using he
 obtain rfl:=hp
 refine ⟨by simp,?_⟩
 clear he hwf
 rw [Tryz.results141]
 repeat' first
  | (refine And.intro ?_ ?_)
  | (intro h;simp only [reduceCtorEq] at h;done)
  | (intro h;rw [h])
  | (intro h)
 all_goals first
  | (show ac _=true;kernel_rfl)|(show aj _ _=true;kernel_rfl)|exact True.intro|exact Or.inr rfl|exact Or.inl rfl
  | (show aL _ _;rfl)
  | (show List.length _=_;rfl)
  | refine ⟨_,_,_,_,?_,⟨by decide,by decide⟩,rfl⟩
  | refine ⟨_,_,_,?_,rfl⟩
  | refine ⟨_,_,_,_,?_,rfl,rfl⟩
  | skip
 all_goals try ((with_reducible show bh _ _);repeat (first|exact ok|exact ok1|exact ok2|refine am ?_|refine (q178 _ _ _ _ ?_ rfl).1))
 refine ar (Q:=_) [0,3,4,5] [34] (fun n s=>∃ (z m:Int) (o:List (List D)) (I H:Int),s=([.ptr 34 0 0,.val false [.sl true 96 o],.val false [.i .i64 m],.val false [.i .i64 z]],[(0,[.val false [.sl false 5 rows],.val false [.i .i64 I],.val false [.i .i64 H]])])∧0≤m∧m≤3∧bh rows I∧(∀ r ∈ o,RdD r)∧o.length=z.toNat∧0≤z∧z≤m∧n=m.toNat - z.toNat) ?_ ?_
 · exact ⟨rfl,_,0,_,_,_,_,rfl,(aN (rows:=rows) (i:=i) (h:=h0) (n:=4) ⟨by decide,by decide⟩).1,jcn (aN (rows:=rows) (i:=i) (h:=h0) (n:=4) ⟨by decide,by decide⟩).2,am ok,all0,rfl,by decide,(aN (rows:=rows) (i:=i) (h:=h0) (n:=4) ⟨by decide,by decide⟩).1,rfl⟩
 rintro n s ⟨z,m,o,I,H,rfl,hm0,hm1,ok1,hA,hol,h1,h2,h3⟩
 repeat' first
  | (refine And.intro ?_ ?_)
  | (intro h;simp only [reduceCtorEq] at h;done)
  | (intro h;rw [h])
  | (intro h)
 all_goals first
  | (show ac _=true;kernel_rfl)|(show aj _ _=true;kernel_rfl)|exact True.intro|exact Or.inr rfl|exact Or.inl rfl
  | (show aL _ _;rfl)
  | (show List.length _=_;rfl)
  | exact ⟨_,_,_,_,(by repeat (first|exact ok|exact ok1|exact ok2|refine am ?_|refine (q178 _ _ _ _ ?_ rfl).1)),rfl,rfl⟩
  | exact ⟨_,rfl⟩
  | (show o.length+1≤maxLen;simp only [maxLen];omega)
  | (show (o.length+1) * 152≤140737488355328;omega)
  | (have hz:z < m:=jaT ‹decide (z < m)=true›
     refine ⟨m.toNat - (z+1).toNat,by omega,z+1,m,_,_,_,congrArg (fun q=>(([.ptr 34 0 0,.val false [.sl true 96 _],.val false [.i .i64 _],.val false [.i .i64 q]],[(0,[.val false [.sl false 5 rows],.val false [.i .i64 _],.val false [.i .i64 _]])]):Snap)) (aD (by omega) (by omega)),hm0,hm1,(by repeat (first|exact ok|exact ok1|exact ok2|refine am ?_|refine (q178 _ _ _ _ ?_ rfl).1)),?_,?_,by omega,by omega,rfl⟩
     · refine aS hA ⟨_,_,_,_,_,rfl,(q178 _ _ _ _ (by repeat (first|exact ok|exact ok1|exact ok2|refine am ?_|refine (q178 _ _ _ _ ?_ rfl).1)) rfl).2.1,?_,(q178 _ _ _ _ (by repeat (first|exact ok|exact ok1|exact ok2|refine am ?_|refine (q178 _ _ _ _ ?_ rfl).1)) rfl).2.2.2.1,?_,aK _ _⟩
       · first|exact kk0|exact (q178 _ _ _ _ (by repeat (first|exact ok|exact ok1|exact ok2|refine am ?_|refine (q178 _ _ _ _ ?_ rfl).1)) rfl).2.2.1
       · first|exact jaU _|exact (q178 _ _ _ _ (by repeat (first|exact ok|exact ok1|exact ok2|refine am ?_|refine (q178 _ _ _ _ ?_ rfl).1)) rfl).2.2.2.2
     · rw [jaV,hol];show z.toNat+1=_;omega)
  | (refine ⟨(_,_,_),⟨ok1,?_⟩,rfl,rfl,True.intro⟩
     exact ⟨(show o.length≤8 by omega),hA⟩)
  | skip
theorem any86:AnyD Tryz.prog T 86 5 (fun m=>∃ (l:List (List D)) (b:Int),(l.length≤1048576∧inK .i64 b)∧m=[argS 33 l,.val false [.i .i64 b]]) (fun x:OLs=>.val true [.i .i64 x.a0,.i .i64 x.a1,.i .i64 x.a2,.sl true 3 x.sn,.i .i64 x.e.k,.i .i64 x.e.at_,.i .i64 x.e.c.id,.i .i64 x.e.c.ve,.i .i64 x.e.c.k,.s x.e.c.nm,.s x.e.c.cd,.i .i64 x.e.c.n,.s x.fr,.s x.tt,.i .i64 x.ce,.i .i64 x.ve,.sl true 96 x.rd]) (fun (m:List SV) (x:OLs)=>x.ok∧x.sn.length=3):=by
 obtain ⟨g137,k137,q137⟩:=any137
 obtain ⟨g139,k139,q139⟩:=any139
 obtain ⟨g138,k138,q138⟩:=any138
 obtain ⟨g141,k141,q141⟩:=any141
 refine AnyD.of (fun _=>⟨0,0,0,[[.i 0],[.i 0],[.i 0]],⟨0,0,⟨0,0,0,⟨#[]⟩,⟨#[]⟩,0⟩⟩,⟨#[]⟩,⟨#[]⟩,0,0,[]⟩) (fun _ _=>⟨⟨kk0,kk0,kk0,⟨by decide,aS (l:=[_,_]) (aS (l:=[_]) (all1 ⟨0,rfl,kk0⟩) ⟨0,rfl,kk0⟩) ⟨0,rfl,kk0⟩⟩,⟨kk0,kk0,kk0,kk0,kk0,jaU _,jaU _,kk0⟩,jaU _,jaU _,kk0,kk0,jaU _,all0⟩,rfl⟩) (dN (α:=OLs × Int × Int) (fun _ z=>(fun x:OLs=>.val true [.i .i64 x.a0,.i .i64 x.a1,.i .i64 x.a2,.sl true 3 x.sn,.i .i64 x.e.k,.i .i64 x.e.at_,.i .i64 x.e.c.id,.i .i64 x.e.c.ve,.i .i64 x.e.c.k,.s x.e.c.nm,.s x.e.c.cd,.i .i64 x.e.c.n,.s x.fr,.s x.tt,.i .i64 x.ce,.i .i64 x.ve,.sl true 96 x.rd]) z.1) (fun a z=>curU 5 a z.2.1 z.2.2) (post:=fun a z=>bh (rowsOf a) z.2.1∧(fun (m:List SV) (x:OLs)=>x.ok∧x.sn.length=3) a.tail z.1) (env:=envL [(137, { pre:=fun a=>∃ l:List (List D),l.length≤1048576∧a=[argS 33 l],res:=fun a=>(fun x:Int=>.val false [.i .i64 x]) (g137 a) }),(46,(bH 5)),(138,spD 5 (fun m=>m=[]) (fun x:EDs=>.val true [.i .i64 x.k,.i .i64 x.at_,.i .i64 x.c.id,.i .i64 x.c.ve,.i .i64 x.c.k,.s x.c.nm,.s x.c.cd,.i .i64 x.c.n]) g138),(139, { pre:=fun a=>∃ (l:List (List D)) (b:Int),l.length≤1048576∧a=[argS 33 l,.val false [.i .i64 b]],res:=fun a=>(fun x:Int=>.val false [.i .i64 x]) (g139 a) }),(140,(eh 5 9)),(141,spD 5 (fun m=>m=[]) (fun x:List (List D)=>.val false [.sl true 96 x]) g141)]) (N:=64) tabT (aa k137 (aa ok46 (aa k138 (aa k139 (aa ok140 (aa k141 ae)))))) mixed Tryz.func86 rfl Tryz.call86 Tryz.ntmps86 ?_)
 rintro cs args ⟨rows,i,h0,more,ok,hp,he⟩ hwf
 obtain ⟨rfl,rfl⟩:cs=curC 5 rows i h0∧args=more:=by simpa only [jbj,SV.tup.injEq,jbn,true_and,and_true] using he
 obtain ⟨l,b,⟨hlm,hb⟩,rfl⟩:=hp
 refine ⟨by simp,?_⟩
 clear he hwf
 rw [Tryz.results86]
 repeat' first
  | (refine And.intro ?_ ?_)
  | (intro h;simp only [reduceCtorEq] at h;done)
  | (intro h;rw [h])
  | (intro h)
 all_goals first
  | (show ac _=true;kernel_rfl)|(show aj _ _=true;kernel_rfl)|exact True.intro|exact Or.inr rfl|exact Or.inl rfl
  | (show aL _ _;rfl)
  | (show List.length _=_;rfl)
  | refine ⟨_,_,_,_,?_,⟨by decide,by decide⟩,rfl⟩
  | refine ⟨_,_,_,?_,rfl⟩
  | refine ⟨_,_,_,_,?_,rfl,rfl⟩
  | refine ⟨_,_,_,_,?_,rfl,rfl⟩
  | exact ⟨_,hlm,rfl⟩
  | skip
 all_goals try ((with_reducible show bh _ _);repeat (first|exact ok|exact ok1|exact ok2|refine am ?_|refine (q138 _ _ _ _ ?_ rfl).1|refine (q141 _ _ _ _ ?_ rfl).1))
 refine ar (Q:=_) [0,1,2,6,7,8] [64,6,7] (fun n s=>∃ (z x0:Int) (y:EDs) (sn:List (List D)) (I H:Int),s=([.ptr 64 0 0,argS 33 l,.val false [.i .i64 b],.ptr 6 1 0,.ptr 7 1 0,.val false [.i .i64 z]],[(0,[.val false [.sl false 5 rows],.val false [.i .i64 I],.val false [.i .i64 H]]),(1,[.val false [.i .i64 0],.val false [.i .i64 0],.val false [.i .i64 0],.val false [.sl true 3 []],.val false [.i .i64 0],.val false [.i .i64 0],.val false [.i .i64 0],.val false [.i .i64 0],.val false [.i .i64 0],.val false [.s ByteArray.empty],.val false [.s ByteArray.empty],.val false [.i .i64 0],.val false [.s ByteArray.empty],.val false [.s ByteArray.empty],.val false [.i .i64 0],.val false [.i .i64 0],.val false [.sl true 96 []]]),(1,[.val false [.i .i64 x0],.val false [.i .i64 b],.val false [.i .i64 1],.val false [.sl true 3 sn],.val false [.i .i64 y.k],.val false [.i .i64 y.at_],.val false [.i .i64 y.c.id],.val false [.i .i64 y.c.ve],.val false [.i .i64 y.c.k],.val false [.s y.c.nm],.val false [.s y.c.cd],.val false [.i .i64 y.c.n],.val false [.s ByteArray.empty],.val false [.s ByteArray.empty],.val false [.i .i64 0],.val false [.i .i64 0],.val false [.sl true 96 []]])])∧inK .i64 x0∧y.ok∧bh rows I∧(∀ r ∈ sn,IntD r)∧sn.length=z.toNat∧0≤z∧z≤3∧n=3 - z.toNat) ?_ ?_
 · exact ⟨rfl,_,0,_,⟨_,_,⟨_,_,_,_,_,_⟩⟩,_,_,_,rfl,aK _ _,(q138 _ _ _ _ (am ok) rfl).2,(q138 _ _ _ _ (am ok) rfl).1,all0,rfl,by decide,by decide,rfl⟩
 rintro n s ⟨z,x0,y,sn,I,H,rfl,hx0,hy,ok1,hA,hol,h1,h2,h3⟩
 repeat' first
  | (refine And.intro ?_ ?_)
  | (intro h;simp only [reduceCtorEq] at h;done)
  | (intro h;rw [h])
  | (intro h)
 all_goals first
  | (show ac _=true;kernel_rfl)|(show aj _ _=true;kernel_rfl)|exact True.intro|exact Or.inr rfl|exact Or.inl rfl
  | (show aL _ _;rfl)
  | (show List.length _=_;rfl)
  | exact ⟨_,_,hlm,rfl⟩
  | exact ⟨_,_,_,_,(by repeat (first|exact ok|exact ok1|exact ok2|refine am ?_|refine (q138 _ _ _ _ ?_ rfl).1|refine (q141 _ _ _ _ ?_ rfl).1)),rfl,rfl⟩
  | exact ⟨_,_,_,_,(by repeat (first|exact ok|exact ok1|exact ok2|refine am ?_|refine (q138 _ _ _ _ ?_ rfl).1|refine (q141 _ _ _ _ ?_ rfl).1)),⟨by decide,by decide⟩,rfl⟩
  | (show sn.length+1≤maxLen;simp only [maxLen];omega)
  | (show (sn.length+1) * 8≤140737488355328;omega)
  | (have hz:z < 3:=jaT ‹decide (z < 3)=true›
     refine ⟨3 - (z+1).toNat,by omega,z+1,x0,y,_,_,_,congrArg (fun q=>(([.ptr 64 0 0,argS 33 l,.val false [.i .i64 b],.ptr 6 1 0,.ptr 7 1 0,.val false [.i .i64 q]],[(0,[.val false [.sl false 5 rows],.val false [.i .i64 _],.val false [.i .i64 _]]),(1,[.val false [.i .i64 0],.val false [.i .i64 0],.val false [.i .i64 0],.val false [.sl true 3 []],.val false [.i .i64 0],.val false [.i .i64 0],.val false [.i .i64 0],.val false [.i .i64 0],.val false [.i .i64 0],.val false [.s ByteArray.empty],.val false [.s ByteArray.empty],.val false [.i .i64 0],.val false [.s ByteArray.empty],.val false [.s ByteArray.empty],.val false [.i .i64 0],.val false [.i .i64 0],.val false [.sl true 96 []]]),(1,[.val false [.i .i64 x0],.val false [.i .i64 b],.val false [.i .i64 1],.val false [.sl true 3 _],.val false [.i .i64 y.k],.val false [.i .i64 y.at_],.val false [.i .i64 y.c.id],.val false [.i .i64 y.c.ve],.val false [.i .i64 y.c.k],.val false [.s y.c.nm],.val false [.s y.c.cd],.val false [.i .i64 y.c.n],.val false [.s ByteArray.empty],.val false [.s ByteArray.empty],.val false [.i .i64 0],.val false [.i .i64 0],.val false [.sl true 96 []]])]):Snap)) (aD (by omega) (by omega)),hx0,hy,ok1,aS hA ⟨_,rfl,q139 _⟩,?_,by omega,by omega,rfl⟩
     rw [jaV,hol];show z.toNat+1=_;omega)
  | (refine ⟨(⟨_,_,_,_,⟨_,_,⟨_,_,_,_,_,_⟩⟩,_,_,_,_,_⟩,_,_),⟨(by repeat (first|exact ok|exact ok1|exact ok2|refine am ?_|refine (q138 _ _ _ _ ?_ rfl).1|refine (q141 _ _ _ _ ?_ rfl).1)),?_⟩,rfl,rfl,True.intro⟩
     have hz:¬ z < 3:=ja4 ‹decide (z < 3)=false›
     refine ⟨⟨hx0,hb,?_,⟨(show sn.length≤8 by omega),hA⟩,?_,?_,?_,?_,?_,?_⟩,(show sn.length=3 by omega)⟩
     · first|exact kk1|exact kk2|exact kk3
     · first|exact hy|exact ⟨kk0,kk0,kk0,kk0,kk0,jaU _,jaU _,kk0⟩
     · first|exact jaU _|exact ah (P:=fun t=>t.size≤8) (jaU _) (by intro r hr;simp only [az,ja2,jaZ,ja1,jaX,or_false] at hr;rcases hr with rfl|rfl|rfl <;> decide) _
     · first|exact jaU _|exact ah (P:=fun t=>t.size≤8) (jaU _) (by intro r hr;simp only [az,ja2,jaZ,ja1,jaX,or_false] at hr;rcases hr with rfl|rfl|rfl <;> decide) _
     · first|exact kk0|exact aK _ _
     · first|exact kk0|exact aK _ _
     · first|exact ⟨jaU _,all0⟩|exact (q141 _ _ _ _ (by repeat (first|exact ok|exact ok1|exact ok2|refine am ?_|refine (q138 _ _ _ _ ?_ rfl).1|refine (q141 _ _ _ _ ?_ rfl).1)) rfl).2)
  | skip
theorem any82:AnyD Tryz.prog T 82 5 (fun m=>∃ w:Int,(0≤w∧w≤10)∧m=[.val false [.i .i64 w]]) (fun x:List (List D)=>.val false [.sl false 33 x]) (fun (m:List SV) (x:List (List D))=>(∀ y ∈ x,OpD y)∧x.length≤10):=by
 obtain ⟨g136,k136,q136⟩:=any136
 obtain ⟨g86,k86,q86⟩:=any86
 refine AnyD.of (fun _=>[]) (fun _ _=>⟨all0,jaU _⟩) (dN (α:=List (List D) × Int × Int) (fun _ z=>(fun x:List (List D)=>.val false [.sl false 33 x]) z.1) (fun a z=>curU 5 a z.2.1 z.2.2) (post:=fun a z=>bh (rowsOf a) z.2.1∧(fun (m:List SV) (x:List (List D))=>(∀ y ∈ x,OpD y)∧x.length≤10) a.tail z.1) (env:=envL [(46,(bH 5)),(83,(kd 5)),(86,spD 5 (fun m=>∃ (l:List (List D)) (b:Int),(l.length≤1048576∧inK .i64 b)∧m=[argS 33 l,.val false [.i .i64 b]]) (fun x:OLs=>.val true [.i .i64 x.a0,.i .i64 x.a1,.i .i64 x.a2,.sl true 3 x.sn,.i .i64 x.e.k,.i .i64 x.e.at_,.i .i64 x.e.c.id,.i .i64 x.e.c.ve,.i .i64 x.e.c.k,.s x.e.c.nm,.s x.e.c.cd,.i .i64 x.e.c.n,.s x.fr,.s x.tt,.i .i64 x.ce,.i .i64 x.ve,.sl true 96 x.rd]) g86),(136, { pre:=fun m=>∃ a b:List (List D),((∀ y ∈ a,OpD y)∧(∀ y ∈ b,OpD y)∧a.length+b.length≤1000)∧m=[argS 33 a,argS 33 b],res:=fun a=>(fun x:List (List D)=>.val false [.sl false 33 x]) (g136 a) })]) (N:=40) tabT (aa ok46 (aa ok83 (aa k86 (aa k136 ae)))) mixed Tryz.func82 rfl Tryz.call82 Tryz.ntmps82 ?_)
 rintro cs args ⟨rows,i,h0,more,ok,hp,he⟩ hwf
 obtain ⟨rfl,rfl⟩:cs=curC 5 rows i h0∧args=more:=by simpa only [jbj,SV.tup.injEq,jbn,true_and,and_true] using he
 obtain ⟨w,hw,rfl⟩:=hp
 refine ⟨by simp,?_⟩
 clear he hwf
 have hw1:IntKind.i64.wrap (w+1)=w+1:=aD (by omega) (by omega)
 rw [Tryz.results82]
 repeat' first
  | (refine And.intro ?_ ?_)
  | (intro h;simp only [reduceCtorEq] at h;done)
  | (intro h;rw [h])
  | (intro h)
 all_goals first
  | (show ac _=true;kernel_rfl)|(show aj _ _=true;kernel_rfl)|exact True.intro|exact Or.inr rfl|exact Or.inl rfl
  | (show aL _ _;rfl)
  | (show List.length _=_;rfl)
  | refine ⟨_,_,_,_,?_,⟨by decide,by decide⟩,rfl⟩
  | refine ⟨_,_,_,?_,rfl⟩
  | refine ⟨_,_,_,_,?_,(by first|exact ⟨_,_,⟨by simp only [jaV,jby,jbc,jbh];omega,ax (av ⟨by decide,by decide⟩)⟩,rfl⟩|exact ⟨_,_,⟨by omega,ax (av ⟨by decide,by decide⟩)⟩,rfl⟩),rfl⟩
  | refine ⟨_,_,_,_,?_,(by rw [hw1];exact ⟨by omega,by omega⟩),rfl⟩
  | skip
 all_goals try ((with_reducible show bh _ _);repeat (first|exact ok|exact ok1|exact ok2|refine am ?_|refine (q86 _ _ _ _ ?_ (by first|exact ⟨_,_,⟨by simp only [jaV,jby,jbc,jbh];omega,ax (av ⟨by decide,by decide⟩)⟩,rfl⟩|exact ⟨_,_,⟨by omega,ax (av ⟨by decide,by decide⟩)⟩,rfl⟩)).1))
 refine ar (Q:=_) [0,1,5,6,7] [40] (fun n s=>∃ (ob:Bool) (o:List (List D)) (z m I H:Int),s=([.ptr 40 0 0,.val false [.i .i64 w],.val false [.sl ob 33 o],.val false [.i .i64 m],.val false [.i .i64 z]],[(0,[.val false [.sl false 5 rows],.val false [.i .i64 I],.val false [.i .i64 H]])])∧0≤m∧m≤w∧bh rows I∧(∀ y ∈ o,OpD y)∧o.length≤z.toNat∧0≤z∧z≤m∧n=m.toNat - z.toNat) ?_ ?_
 · exact ⟨rfl,_,_,_,0,_,_,_,rfl,(aN (rows:=rows) (i:=i) (h:=h0) (n:=IntKind.i64.wrap (w+1)) (by rw [hw1];omega)).1,(by have:=(aN (rows:=rows) (i:=i) (h:=h0) (n:=IntKind.i64.wrap (w+1)) (by rw [hw1];omega)).2;rw [hw1] at this ⊢;omega),am ok,all0,ja9 _,by decide,(aN (rows:=rows) (i:=i) (h:=h0) (n:=IntKind.i64.wrap (w+1)) (by rw [hw1];omega)).1,rfl⟩
 rintro n s ⟨ob,o,z,m,I,H,rfl,hm0,hm1,ok1,hA,hol,h1,h2,h3⟩
 have hol1:IntKind.i64.wrap ((o.length:Int)+1)=(o.length:Int)+1:=aD (by omega) (by omega)
 cases ob
 all_goals repeat' first
  | (refine And.intro ?_ ?_)
  | (intro h;simp only [reduceCtorEq] at h;done)
  | (intro h;rw [h])
  | (intro h)
 all_goals first
  | (show ac _=true;kernel_rfl)|(show aj _ _=true;kernel_rfl)|exact True.intro|exact Or.inr rfl|exact Or.inl rfl
  | (show aL _ _;rfl)
  | (show List.length _=_;rfl)
  | exact jbE _
  | exact ⟨_,_,_,_,(by repeat (first|exact ok|exact ok1|exact ok2|refine am ?_|refine (q86 _ _ _ _ ?_ (by first|exact ⟨_,_,⟨by simp only [jaV,jby,jbc,jbh];omega,ax (av ⟨by decide,by decide⟩)⟩,rfl⟩|exact ⟨_,_,⟨by omega,ax (av ⟨by decide,by decide⟩)⟩,rfl⟩)).1)),⟨by decide,by decide⟩,rfl⟩
  | exact ⟨_,_,_,_,(by repeat (first|exact ok|exact ok1|exact ok2|refine am ?_|refine (q86 _ _ _ _ ?_ (by first|exact ⟨_,_,⟨by simp only [jaV,jby,jbc,jbh];omega,ax (av ⟨by decide,by decide⟩)⟩,rfl⟩|exact ⟨_,_,⟨by omega,ax (av ⟨by decide,by decide⟩)⟩,rfl⟩)).1)),(by rw [hol1];exact ⟨by omega,by omega⟩),rfl⟩
  | exact ⟨_,_,_,_,(by repeat (first|exact ok|exact ok1|exact ok2|refine am ?_|refine (q86 _ _ _ _ ?_ (by first|exact ⟨_,_,⟨by simp only [jaV,jby,jbc,jbh];omega,ax (av ⟨by decide,by decide⟩)⟩,rfl⟩|exact ⟨_,_,⟨by omega,ax (av ⟨by decide,by decide⟩)⟩,rfl⟩)).1)),(by first|exact ⟨_,_,⟨by simp only [jaV,jby,jbc,jbh];omega,ax (av ⟨by decide,by decide⟩)⟩,rfl⟩|exact ⟨_,_,⟨by omega,ax (av ⟨by decide,by decide⟩)⟩,rfl⟩),rfl⟩
  | exact ⟨_,_,⟨hA,aS all0 ⟨_,rfl,(q86 _ _ _ _ (by repeat (first|exact ok|exact ok1|exact ok2|refine am ?_|refine (q86 _ _ _ _ ?_ (by first|exact ⟨_,_,⟨by simp only [jaV,jby,jbc,jbh];omega,ax (av ⟨by decide,by decide⟩)⟩,rfl⟩|exact ⟨_,_,⟨by omega,ax (av ⟨by decide,by decide⟩)⟩,rfl⟩)).1)) (by first|exact ⟨_,_,⟨by simp only [jaV,jby,jbc,jbh];omega,ax (av ⟨by decide,by decide⟩)⟩,rfl⟩|exact ⟨_,_,⟨by omega,ax (av ⟨by decide,by decide⟩)⟩,rfl⟩)).2.1⟩,(by show o.length+1≤1000;omega)⟩,rfl⟩
  | exact (aN (by rw [hol1];exact ⟨by omega,by omega⟩)).1
  | exact jcn (Int.lt_of_lt_of_le (aN (by rw [hol1];exact ⟨by omega,by omega⟩)).2 (Int.le_of_eq hol1))
  | (refine ⟨(_,_,_),⟨ok1,?_⟩,rfl,rfl,True.intro⟩
     exact ⟨hA,(show o.length≤10 by omega)⟩)
  | (have hz:z < m:=jaT ‹decide (z < m)=true›
     refine ⟨m.toNat - (z+1).toNat,by omega,_,_,z+1,m,_,_,congrArg (fun q=>(([.ptr 40 0 0,.val false [.i .i64 w],.val false [.sl _ 33 _],.val false [.i .i64 _],.val false [.i .i64 q]],[(0,[.val false [.sl false 5 rows],.val false [.i .i64 _],.val false [.i .i64 _]])]):Snap)) (aD (by omega) (by omega)),hm0,hm1,(by repeat (first|exact ok|exact ok1|exact ok2|refine am ?_|refine (q86 _ _ _ _ ?_ (by first|exact ⟨_,_,⟨by simp only [jaV,jby,jbc,jbh];omega,ax (av ⟨by decide,by decide⟩)⟩,rfl⟩|exact ⟨_,_,⟨by omega,ax (av ⟨by decide,by decide⟩)⟩,rfl⟩)).1)),(q136 _ ⟨_,_,⟨hA,aS all0 ⟨_,rfl,(q86 _ _ _ _ (by repeat (first|exact ok|exact ok1|exact ok2|refine am ?_|refine (q86 _ _ _ _ ?_ (by first|exact ⟨_,_,⟨by simp only [jaV,jby,jbc,jbh];omega,ax (av ⟨by decide,by decide⟩)⟩,rfl⟩|exact ⟨_,_,⟨by omega,ax (av ⟨by decide,by decide⟩)⟩,rfl⟩)).1)) (by first|exact ⟨_,_,⟨by simp only [jaV,jby,jbc,jbh];omega,ax (av ⟨by decide,by decide⟩)⟩,rfl⟩|exact ⟨_,_,⟨by omega,ax (av ⟨by decide,by decide⟩)⟩,rfl⟩)).2.1⟩,(by show o.length+1≤1000;omega)⟩,rfl⟩).1,?_,by omega,by omega,rfl⟩
     refine ja0 (q136 _ ⟨_,_,⟨hA,aS all0 ⟨_,rfl,(q86 _ _ _ _ (by repeat (first|exact ok|exact ok1|exact ok2|refine am ?_|refine (q86 _ _ _ _ ?_ (by first|exact ⟨_,_,⟨by simp only [jaV,jby,jbc,jbh];omega,ax (av ⟨by decide,by decide⟩)⟩,rfl⟩|exact ⟨_,_,⟨by omega,ax (av ⟨by decide,by decide⟩)⟩,rfl⟩)).1)) (by first|exact ⟨_,_,⟨by simp only [jaV,jby,jbc,jbh];omega,ax (av ⟨by decide,by decide⟩)⟩,rfl⟩|exact ⟨_,_,⟨by omega,ax (av ⟨by decide,by decide⟩)⟩,rfl⟩)).2.1⟩,(by show o.length+1≤1000;omega)⟩,rfl⟩).2 ?_
     show o.length+1≤_
     omega)
  | skip
theorem OLs.b0 {Y:OLs} (h:Y.ok) {a:Int} (k:inK .i64 a):OLs.ok { Y with a0:=a }:=⟨k,h.2⟩
theorem OLs.b1 {Y:OLs} (h:Y.ok) {a:Int} (k:inK .i64 a):OLs.ok { Y with a1:=a }:=⟨h.1,k,h.2.2⟩
theorem OLs.b2 {Y:OLs} (h:Y.ok) {a:Int} (k:inK .i64 a):OLs.ok { Y with a2:=a }:=⟨h.1,h.2.1,k,h.2.2.2⟩
theorem OLs.b3 {Y:OLs} (h:Y.ok) {s:List (List D)} (k:s.length≤8∧∀ r ∈ s,IntD r):OLs.ok { Y with sn:=s }:=⟨h.1,h.2.1,h.2.2.1,k,h.2.2.2.2⟩
theorem OLs.b4 {Y:OLs} (h:Y.ok) {t:ByteArray} (k:t.size≤8):OLs.ok { Y with tt:=t }:=⟨h.1,h.2.1,h.2.2.1,h.2.2.2.1,h.2.2.2.2.1,h.2.2.2.2.2.1,k,h.2.2.2.2.2.2.2⟩
end Go.Proofs.YtkpnfbdoaljkpaaGreatDoor.Ab
