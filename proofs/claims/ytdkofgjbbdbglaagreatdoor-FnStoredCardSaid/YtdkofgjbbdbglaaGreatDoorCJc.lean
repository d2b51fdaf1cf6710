/- A part. -/
import Derived.Test.YtdkofgjbbdbglaaGreatDoorCJa
import Derived.Test.YtdkofgjbbdbglaaGreatDoorCYd
namespace Go.Proofs.YtdkofgjbbdbglaaGreatDoor.Ab
open Go.RowKit
set_option linter.all false
set_option maxRecDepth 100000
set_option maxHeartbeats 2000000
theorem any233:AnyX Tryz.prog T 233 (fun a=>∃ s:ByteArray,a=[.val false [.s s]]) (fun x:Int=>.val false [.i .i64 x]) (fun x:Int=>True):=by
 refine AnyX.of (0) (True.intro) (fokA (fun _ (x:Int)=>.val false [.i .i64 x]) (post:=fun _ (x:Int)=>True) (env:=envL []) (N:=26) tabT ae mixed Tryz.func233 rfl Tryz.call233 Tryz.ntmps233 ?_)
 rintro args ⟨s,rfl⟩ hwf
 refine ⟨by simp,?_⟩
 clear hwf
 rw [Tryz.results233]
 repeat' first
  | refine And.intro ?_ ?_
  | (intro h;simp only [reduceCtorEq] at h;done)
  | (intro h;rw [h])
  | intro h
 all_goals first
  | exact Or.inr rfl
  | exact ⟨_,True.intro,rfl,True.intro⟩
theorem any222:AnyX Tryz.prog T 222 (fun a=>∃ r:List D,a=[argG [.i .i64,.i .i64,.s,.l 144] r]) (fun x:Bool=>.val false [.b x]) (fun x:Bool=>True):=by
 obtain ⟨g233,k233,q233⟩:=any233
 refine AnyX.of (false) (True.intro) (fokA (fun _ (x:Bool)=>.val false [.b x]) (post:=fun _ (x:Bool)=>True) (env:=envL [(37,spIn),(117,(spTB okTxt)),(209,(spTB bZ)),(233, { pre:=fun a=>∃ s:ByteArray,a=[.val false [.s s]],res:=fun a=>(fun x:Int=>.val false [.i .i64 x]) (g233 a) })]) (N:=120) tabT (aa ok37 (aa jak (aa jae (aa k233 ae)))) mixed Tryz.func222 rfl Tryz.call222 Tryz.ntmps222 ?_)
 rintro args ⟨r,rfl⟩ hwf
 refine ⟨by simp,?_⟩
 clear hwf
 rw [Tryz.results222]
 repeat' first
  | refine And.intro ?_ ?_
  | (intro h;simp only [reduceCtorEq] at h;done)
  | (intro h;rw [h])
  | intro h
 all_goals first
  | exact Or.inr rfl
  | exact ⟨_,rfl⟩
  | exact ⟨_,_,_,rfl⟩
  | exact ⟨_,True.intro,rfl,True.intro⟩
theorem any197:AnyX Tryz.prog T 197 (fun a=>∃ r:List D,a=[argG [.i .i64,.i .i64,.s,.l 144] r]) (fun x:Int=>.val false [.i .i64 x]) (fun x:Int=>True):=by
 refine AnyX.of (0) (True.intro) (fokA (fun _ (x:Int)=>.val false [.i .i64 x]) (post:=fun _ (x:Int)=>True) (env:=envL []) (N:=21) tabT ae mixed Tryz.func197 rfl Tryz.call197 Tryz.ntmps197 ?_)
 rintro args ⟨r,rfl⟩ hwf
 refine ⟨by simp,?_⟩
 clear hwf
 rw [Tryz.results197]
 repeat' first
  | refine And.intro ?_ ?_
  | (intro h;simp only [reduceCtorEq] at h;done)
  | (intro h;rw [h])
  | intro h
 all_goals first
  | exact Or.inr rfl
  | exact ⟨_,True.intro,rfl,True.intro⟩
theorem any199:AnyX Tryz.prog T 199 (fun a=>∃ n:Int,a=[.val false [.i .i64 n]]) (fun x:ByteArray=>.val false [.s x]) (fun x:ByteArray=>x.size≤2):=by
 refine AnyX.of (⟨#[]⟩) (jc7 _) (fokA (fun _ (x:ByteArray)=>.val false [.s x]) (post:=fun _ (x:ByteArray)=>x.size≤2) (env:=envL [(37,spIn)]) (N:=10) tabT (aa ok37 ae) mixed Tryz.func199 rfl Tryz.call199 Tryz.ntmps199 ?_)
 rintro args ⟨s,rfl⟩ hwf
 refine ⟨by simp,?_⟩
 clear hwf
 rw [Tryz.results199]
 repeat' first
  | refine And.intro ?_ ?_
  | (intro h;simp only [reduceCtorEq] at h;done)
  | (intro h;rw [h])
  | intro h
 all_goals first
  | exact Or.inr rfl
  | exact ⟨_,_,_,rfl⟩
  | exact ⟨_,(by decide),rfl,True.intro⟩
  | (have:=(tQ (by assumption)).1;omega)
  | (have:=tQ (by assumption);show s < ((6:Nat):Int);omega)
  | (have:=tQ (by assumption);show s.toNat < 6;omega)
  | exact ⟨_,af (P:=fun t=>t.size≤2) (jc7 _) (by intro r hr;simp only [az,jdf,jdc,jde,jda,or_false] at hr;rcases hr with rfl|rfl|rfl|rfl|rfl|rfl <;> decide) _,rfl,True.intro⟩
theorem yG (d:Nat) (hd:AnyX Tryz.prog T 195 (preE [.i .i64,.i .i64,.s,.l 144] d) (fun x:Bool=>.val false [.b x]) (fun x:Bool=>True)):AnyX Tryz.prog T 195 (preE [.i .i64,.i .i64,.s,.l 144] (d+1)) (fun x:Bool=>.val false [.b x]) (fun x:Bool=>True):=by
 obtain ⟨g195,k195,q195⟩:=hd
 obtain ⟨g222,k222,q222⟩:=any222
 refine AnyX.of (false) (True.intro) (fokA (fun _ (x:Bool)=>.val false [.b x]) (post:=fun _ (x:Bool)=>True) (env:=envL [(195, { pre:=preE [.i .i64,.i .i64,.s,.l 144] d,res:=fun a=>(fun x:Bool=>.val false [.b x]) (g195 a) }),(222, { pre:=fun a=>∃ r:List D,a=[argG [.i .i64,.i .i64,.s,.l 144] r],res:=fun a=>(fun x:Bool=>.val false [.b x]) (g222 a) })]) (N:=20) tabT (aa k195 (aa k222 ae)) mixed Tryz.func195 rfl Tryz.call195 Tryz.ntmps195 ?_)
 rintro args ⟨r,hr,rfl⟩ hwf
 refine ⟨by simp,?_⟩
 clear hwf
 obtain ⟨hl,hall,har,hts⟩:=hr.args
 have hlm:(r.getD 3 default).rows.length≤1048576:=jdd hl (by decide)
 rw [Tryz.results195]
 repeat' first
  | refine And.intro ?_ ?_
  | (intro h;simp only [reduceCtorEq] at h;done)
  | (intro h;rw [h])
  | intro h
 all_goals first
  | skip
 refine aj (Q:=_) [1,3] [1] (fun n st=>∃ (i:Nat),st=([.ptr 1 1 0,.val false [.i .i64 (i:Int)]],[(1,(rowC [.i .i64,.i .i64,.s,.l 144] r).map fun c=>.val false [c])])∧i≤(r.getD 3 default).rows.length∧n=(r.getD 3 default).rows.length - i) ?_ ?_
 · exact ⟨rfl,(r.getD 3 default).rows.length,0,rfl,jc7 _,rfl⟩
 rintro n st ⟨i,rfl,hle,rfl⟩
 repeat' first
  | refine And.intro ?_ ?_
  | (intro h;simp only [reduceCtorEq] at h;done)
  | (intro h;rw [h])
  | intro h
 all_goals first
  | exact Or.inr rfl
  | with_reducible exact jdk _
  | (have hi:i < (r.getD 3 default).rows.length:=ltN' (by with_reducible assumption)
     first
      | with_reducible exact jc6 (by with_reducible assumption)
      | exact ⟨_,ef hall (by omega),rfl⟩
      | exact ⟨_,True.intro,rfl,True.intro⟩
      | (refine ⟨(r.getD 3 default).rows.length - (i+1),by omega,i+1,congrArg (fun z:Int=>(([.ptr 1 1 0,.val false [.i .i64 z]],[(1,(rowC [.i .i64,.i .i64,.s,.l 144] r).map fun c=>.val false [c])]):Snap)) (dG hi hlm),by omega,rfl⟩)
      | (show aX _ _;exact rfl))
  | exact ⟨_,rfl⟩
  | exact ⟨_,True.intro,rfl,True.intro⟩
theorem jcY (d:Nat):AnyX Tryz.prog T 195 (preE [.i .i64,.i .i64,.s,.l 144] d) (fun x:Bool=>.val false [.b x]) (fun x:Bool=>True):=by
 induction d with
 | zero=>exact AnyX.none (false) True.intro Tryz.call195 (by rintro a ⟨r,hr,_⟩;exact hr.elim)
 | succ d ih=>exact yG d ih
theorem yH (d:Nat) (hd:AnyX Tryz.prog T 194 (preE [.i .i64,.i .i64,.s,.l 144] d) (fun x:Int=>.val false [.i .i64 x]) (fun x:Int=>True)):AnyX Tryz.prog T 194 (preE [.i .i64,.i .i64,.s,.l 144] (d+1)) (fun x:Int=>.val false [.i .i64 x]) (fun x:Int=>True):=by
 obtain ⟨g194,k194,q194⟩:=hd
 refine AnyX.of (0) (True.intro) (fokA (fun _ (x:Int)=>.val false [.i .i64 x]) (post:=fun _ (x:Int)=>True) (env:=envL [(194, { pre:=preE [.i .i64,.i .i64,.s,.l 144] d,res:=fun a=>(fun x:Int=>.val false [.i .i64 x]) (g194 a) }),(77,sa)]) (N:=22) tabT (aa k194 (aa xk77 ae)) mixed Tryz.func194 rfl Tryz.call194 Tryz.ntmps194 ?_)
 rintro args ⟨r,hr,rfl⟩ hwf
 refine ⟨by simp,?_⟩
 clear hwf
 obtain ⟨hl,hall,har,hts⟩:=hr.args
 have hlm:(r.getD 3 default).rows.length≤1048576:=jdd hl (by decide)
 rw [Tryz.results194]
 repeat' first
  | refine And.intro ?_ ?_
  | (intro h;simp only [reduceCtorEq] at h;done)
  | (intro h;rw [h])
  | intro h
 all_goals first
  | skip
 refine aj (Q:=_) [1,3,4] [1] (fun n st=>∃ (i:Nat) (m:Int),st=([.ptr 1 1 0,.val false [.i .i64 m],.val false [.i .i64 (i:Int)]],[(1,(rowC [.i .i64,.i .i64,.s,.l 144] r).map fun c=>.val false [c])])∧i≤(r.getD 3 default).rows.length∧n=(r.getD 3 default).rows.length - i) ?_ ?_
 · exact ⟨rfl,(r.getD 3 default).rows.length,0,0,rfl,jc7 _,rfl⟩
 rintro n st ⟨i,m,rfl,hle,rfl⟩
 repeat' first
  | refine And.intro ?_ ?_
  | (intro h;simp only [reduceCtorEq] at h;done)
  | (intro h;rw [h])
  | intro h
 all_goals first
  | exact Or.inr rfl
  | with_reducible exact jdk _
  | (have hi:i < (r.getD 3 default).rows.length:=ltN' (by with_reducible assumption)
     first
      | with_reducible exact jc6 (by with_reducible assumption)
      | exact ⟨_,ef hall (by omega),rfl⟩
      | exact ⟨_,_,rfl⟩
      | (refine ⟨(r.getD 3 default).rows.length - (i+1),by omega,i+1,_,congrArg (fun z:Int=>(([.ptr 1 1 0,.val false [.i .i64 _],.val false [.i .i64 z]],[(1,(rowC [.i .i64,.i .i64,.s,.l 144] r).map fun c=>.val false [c])]):Snap)) (dG hi hlm),by omega,rfl⟩)
      | (show aX _ _;exact rfl))
  | exact ⟨_,True.intro,rfl,True.intro⟩
theorem jcZ (d:Nat):AnyX Tryz.prog T 194 (preE [.i .i64,.i .i64,.s,.l 144] d) (fun x:Int=>.val false [.i .i64 x]) (fun x:Int=>True):=by
 induction d with
 | zero=>exact AnyX.none (0) True.intro Tryz.call194 (by rintro a ⟨r,hr,_⟩;exact hr.elim)
 | succ d ih=>exact yH d ih
theorem yI (d:Nat) (hd:AnyX Tryz.prog T 193 (oH [.i .i64,.i .i64,.s,.l 144] d) (fun x:Int=>.val false [.i .i64 x]) (fun x:Int=>True)):AnyX Tryz.prog T 193 (oH [.i .i64,.i .i64,.s,.l 144] (d+1)) (fun x:Int=>.val false [.i .i64 x]) (fun x:Int=>True):=by
 obtain ⟨g193,k193,q193⟩:=hd
 refine AnyX.of (0) (True.intro) (fokA (fun _ (x:Int)=>.val false [.i .i64 x]) (post:=fun _ (x:Int)=>True) (env:=envL [(193, { pre:=oH [.i .i64,.i .i64,.s,.l 144] d,res:=fun a=>(fun x:Int=>.val false [.i .i64 x]) (g193 a) })]) (N:=27) tabT (aa k193 ae) mixed Tryz.func193 rfl Tryz.call193 Tryz.ntmps193 ?_)
 rintro args ⟨r,n,hr,rfl⟩ hwf
 refine ⟨by simp,?_⟩
 clear hwf
 obtain ⟨hl,hall,har,hts⟩:=hr.args
 have hlm:(r.getD 3 default).rows.length≤1048576:=jdd hl (by decide)
 rw [Tryz.results193]
 repeat' first
  | refine And.intro ?_ ?_
  | (intro h;simp only [reduceCtorEq] at h;done)
  | (intro h;rw [h])
  | intro h
 all_goals first
  | skip
 refine aj (Q:=_) [1,2,5] [2] (fun n st=>∃ (i:Nat) (m:Int),st=([.val false [.i .i64 m],.ptr 2 1 0,.val false [.i .i64 (i:Int)]],[(1,(rowC [.i .i64,.i .i64,.s,.l 144] r).map fun c=>.val false [c])])∧i≤(r.getD 3 default).rows.length∧n=(r.getD 3 default).rows.length - i) ?_ ?_
 · exact ⟨rfl,(r.getD 3 default).rows.length,0,_,rfl,jc7 _,rfl⟩
 rintro n st ⟨i,m,rfl,hle,rfl⟩
 repeat' first
  | refine And.intro ?_ ?_
  | (intro h;simp only [reduceCtorEq] at h;done)
  | (intro h;rw [h])
  | intro h
 all_goals first
  | exact Or.inr rfl
  | with_reducible exact jdk _
  | (have hi:i < (r.getD 3 default).rows.length:=ltN' (by with_reducible assumption)
     first
      | with_reducible exact jc6 (by with_reducible assumption)
      | exact ⟨_,_,ef hall (by omega),rfl⟩
      | exact ⟨_,True.intro,rfl,True.intro⟩
      | (refine ⟨(r.getD 3 default).rows.length - (i+1),by omega,i+1,_,congrArg (fun z:Int=>(([.val false [.i .i64 _],.ptr 2 1 0,.val false [.i .i64 z]],[(1,(rowC [.i .i64,.i .i64,.s,.l 144] r).map fun c=>.val false [c])]):Snap)) (dG hi hlm),by omega,rfl⟩)
      | (show aX _ _;exact rfl))
  | exact ⟨_,True.intro,rfl,True.intro⟩
theorem jc0 (d:Nat):AnyX Tryz.prog T 193 (oH [.i .i64,.i .i64,.s,.l 144] d) (fun x:Int=>.val false [.i .i64 x]) (fun x:Int=>True):=by
 induction d with
 | zero=>exact AnyX.none (0) True.intro Tryz.call193 (by rintro a ⟨r,n,hr,_⟩;exact hr.elim)
 | succ d ih=>exact yI d ih
theorem any157 (d:Nat):AnyX Tryz.prog T 157 (preE [.i .i64,.i .i64,.s,.l 144] d) (fun x:Bool=>.val false [.b x]) (fun x:Bool=>True):=by
 obtain ⟨g195,k195,q195⟩:=jcY d
 obtain ⟨g194,k194,q194⟩:=jcZ d
 obtain ⟨g193,k193,q193⟩:=jc0 d
 refine AnyX.of (false) (True.intro) (fokA (fun _ (x:Bool)=>.val false [.b x]) (post:=fun _ (x:Bool)=>True) (env:=envL [(193, { pre:=oH [.i .i64,.i .i64,.s,.l 144] d,res:=fun a=>(fun x:Int=>.val false [.i .i64 x]) (g193 a) }),(194, { pre:=preE [.i .i64,.i .i64,.s,.l 144] d,res:=fun a=>(fun x:Int=>.val false [.i .i64 x]) (g194 a) }),(195, { pre:=preE [.i .i64,.i .i64,.s,.l 144] d,res:=fun a=>(fun x:Bool=>.val false [.b x]) (g195 a) })]) (N:=15) tabT (aa k193 (aa k194 (aa k195 ae))) mixed Tryz.func157 rfl Tryz.call157 Tryz.ntmps157 ?_)
 rintro args ⟨r,hr,rfl⟩ hwf
 refine ⟨by simp,?_⟩
 clear hwf
 rw [Tryz.results157]
 repeat' first
  | refine And.intro ?_ ?_
  | (intro h;simp only [reduceCtorEq] at h;done)
  | (intro h;rw [h])
  | intro h
 all_goals first
  | exact Or.inr rfl
  | exact ⟨_,hr,rfl⟩
  | exact ⟨_,_,hr,rfl⟩
  | exact ⟨_,True.intro,rfl,True.intro⟩
end Go.Proofs.YtdkofgjbbdbglaaGreatDoor.Ab
