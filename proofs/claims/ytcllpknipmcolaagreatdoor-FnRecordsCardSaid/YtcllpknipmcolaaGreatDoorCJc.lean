/- Whether expressions are valid: printed by a program of this -/
import Derived.Test.YtcllpknipmcolaaGreatDoorCJa
import Derived.Test.YtcllpknipmcolaaGreatDoorCYd
namespace Go.Proofs.YtcllpknipmcolaaGreatDoor.Ab
open Go.RowKit
set_option linter.all false
set_option maxRecDepth 100000
set_option maxHeartbeats 2000000
theorem any228:AnyX Tryz.prog T 228 (fun a=>∃ s:ByteArray,a=[.val false [.s s]]) (fun x:Int=>.val false [.i .i64 x]) (fun x:Int=>True):=by
 refine AnyX.of (0) (True.intro) (fokA (fun _ (x:Int)=>.val false [.i .i64 x]) (post:=fun _ (x:Int)=>True) (env:=envL []) (N:=26) tabT ae mixed Tryz.func228 rfl Tryz.call228 Tryz.ntmps228 ?_)
 rintro args ⟨s,rfl⟩ hwf
 refine ⟨by simp,?_⟩
 clear hwf
 rw [Tryz.results228]
 repeat' first
  | (refine And.intro ?_ ?_)
  | (intro h;simp only [reduceCtorEq] at h;done)
  | (intro h;rw [h])
  | (intro h)
 all_goals first
  | exact Or.inr rfl
  | exact ⟨_,True.intro,rfl,True.intro⟩
theorem any223:AnyX Tryz.prog T 223 (fun a=>∃ r:List D,a=[argG [.i .i64,.i .i64,.s,.l 167] r]) (fun x:Bool=>.val false [.b x]) (fun x:Bool=>True):=by
 obtain ⟨g228,k228,q228⟩:=any228
 refine AnyX.of (false) (True.intro) (fokA (fun _ (x:Bool)=>.val false [.b x]) (post:=fun _ (x:Bool)=>True) (env:=envL [(126,spIn),(123,(spTB okTxt)),(201,(spTB bX)),(228, { pre:=fun a=>∃ s:ByteArray,a=[.val false [.s s]],res:=fun a=>(fun x:Int=>.val false [.i .i64 x]) (g228 a) })]) (N:=120) tabT (aa ok126 (aa zE (aa zA (aa k228 ae)))) mixed Tryz.func223 rfl Tryz.call223 Tryz.ntmps223 ?_)
 rintro args ⟨r,rfl⟩ hwf
 refine ⟨by simp,?_⟩
 clear hwf
 rw [Tryz.results223]
 repeat' first
  | (refine And.intro ?_ ?_)
  | (intro h;simp only [reduceCtorEq] at h;done)
  | (intro h;rw [h])
  | (intro h)
 all_goals first
  | exact Or.inr rfl
  | exact ⟨_,rfl⟩
  | exact ⟨_,_,_,rfl⟩
  | exact ⟨_,True.intro,rfl,True.intro⟩
theorem any210:AnyX Tryz.prog T 210 (fun a=>∃ r:List D,a=[argG [.i .i64,.i .i64,.s,.l 167] r]) (fun x:Int=>.val false [.i .i64 x]) (fun x:Int=>True):=by
 refine AnyX.of (0) (True.intro) (fokA (fun _ (x:Int)=>.val false [.i .i64 x]) (post:=fun _ (x:Int)=>True) (env:=envL []) (N:=21) tabT ae mixed Tryz.func210 rfl Tryz.call210 Tryz.ntmps210 ?_)
 rintro args ⟨r,rfl⟩ hwf
 refine ⟨by simp,?_⟩
 clear hwf
 rw [Tryz.results210]
 repeat' first
  | (refine And.intro ?_ ?_)
  | (intro h;simp only [reduceCtorEq] at h;done)
  | (intro h;rw [h])
  | (intro h)
 all_goals first
  | exact Or.inr rfl
  | exact ⟨_,True.intro,rfl,True.intro⟩
theorem any212:AnyX Tryz.prog T 212 (fun a=>∃ n:Int,a=[.val false [.i .i64 n]]) (fun x:ByteArray=>.val false [.s x]) (fun x:ByteArray=>x.size≤2):=by
 refine AnyX.of (⟨#[]⟩) (jcl _) (fokA (fun _ (x:ByteArray)=>.val false [.s x]) (post:=fun _ (x:ByteArray)=>x.size≤2) (env:=envL [(126,spIn)]) (N:=10) tabT (aa ok126 ae) mixed Tryz.func212 rfl Tryz.call212 Tryz.ntmps212 ?_)
 rintro args ⟨s,rfl⟩ hwf
 refine ⟨by simp,?_⟩
 clear hwf
 rw [Tryz.results212]
 repeat' first
  | (refine And.intro ?_ ?_)
  | (intro h;simp only [reduceCtorEq] at h;done)
  | (intro h;rw [h])
  | (intro h)
 all_goals first
  | exact Or.inr rfl
  | exact ⟨_,_,_,rfl⟩
  | exact ⟨_,(by decide),rfl,True.intro⟩
  | (have:=(tD (by assumption)).1;omega)
  | (have:=tD (by assumption);show s < ((6:Nat):Int);omega)
  | (have:=tD (by assumption);show s.toNat < 6;omega)
  | exact ⟨_,af (P:=fun t=>t.size≤2) (jcl _) (by intro r hr;simp only [az,jct,jcq,jcs,jco,or_false] at hr;rcases hr with rfl|rfl|rfl|rfl|rfl|rfl <;> decide) _,rfl,True.intro⟩
theorem yb (d:Nat) (hd:AnyX Tryz.prog T 208 (preE [.i .i64,.i .i64,.s,.l 167] d) (fun x:Bool=>.val false [.b x]) (fun x:Bool=>True)):AnyX Tryz.prog T 208 (preE [.i .i64,.i .i64,.s,.l 167] (d+1)) (fun x:Bool=>.val false [.b x]) (fun x:Bool=>True):=by
 obtain ⟨g208,k208,q208⟩:=hd
 obtain ⟨g223,k223,q223⟩:=any223
 refine AnyX.of (false) (True.intro) (fokA (fun _ (x:Bool)=>.val false [.b x]) (post:=fun _ (x:Bool)=>True) (env:=envL [(208, { pre:=preE [.i .i64,.i .i64,.s,.l 167] d,res:=fun a=>(fun x:Bool=>.val false [.b x]) (g208 a) }),(223, { pre:=fun a=>∃ r:List D,a=[argG [.i .i64,.i .i64,.s,.l 167] r],res:=fun a=>(fun x:Bool=>.val false [.b x]) (g223 a) })]) (N:=20) tabT (aa k208 (aa k223 ae)) mixed Tryz.func208 rfl Tryz.call208 Tryz.ntmps208 ?_)
 rintro args ⟨r,hr,rfl⟩ hwf
 refine ⟨by simp,?_⟩
 clear hwf
 obtain ⟨hl,hall,har,hts⟩:=hr.args
 have hlm:(r.getD 3 default).rows.length≤1048576:=jcr hl (by decide)
 rw [Tryz.results208]
 repeat' first
  | (refine And.intro ?_ ?_)
  | (intro h;simp only [reduceCtorEq] at h;done)
  | (intro h;rw [h])
  | (intro h)
 all_goals first
  | skip
 refine am (Q:=_) [1,3] [1] (fun n st=>∃ (i:Nat),st=([.ptr 1 1 0,.val false [.i .i64 (i:Int)]],[(1,(rowC [.i .i64,.i .i64,.s,.l 167] r).map fun c=>.val false [c])])∧i≤(r.getD 3 default).rows.length∧n=(r.getD 3 default).rows.length - i) ?_ ?_
 · exact ⟨rfl,(r.getD 3 default).rows.length,0,rfl,jcl _,rfl⟩
 rintro n st ⟨i,rfl,hle,rfl⟩
 repeat' first
  | (refine And.intro ?_ ?_)
  | (intro h;simp only [reduceCtorEq] at h;done)
  | (intro h;rw [h])
  | (intro h)
 all_goals first
  | exact Or.inr rfl
  | with_reducible exact jcy _
  | (have hi:i < (r.getD 3 default).rows.length:=ltN' (by with_reducible assumption)
     first
      | with_reducible exact jck (by with_reducible assumption)
      | exact ⟨_,d8 hall (by omega),rfl⟩
      | exact ⟨_,True.intro,rfl,True.intro⟩
      | (refine ⟨(r.getD 3 default).rows.length - (i+1),by omega,i+1,congrArg (fun z:Int=>(([.ptr 1 1 0,.val false [.i .i64 z]],[(1,(rowC [.i .i64,.i .i64,.s,.l 167] r).map fun c=>.val false [c])]):Snap)) (d9 hi hlm),by omega,rfl⟩)
      | (show aV _ _;exact rfl))
  | exact ⟨_,rfl⟩
  | exact ⟨_,True.intro,rfl,True.intro⟩
theorem jcd (d:Nat):AnyX Tryz.prog T 208 (preE [.i .i64,.i .i64,.s,.l 167] d) (fun x:Bool=>.val false [.b x]) (fun x:Bool=>True):=by
 induction d with
 | zero=>exact AnyX.none (false) True.intro Tryz.call208 (by rintro a ⟨r,hr,_⟩;exact hr.elim)
 | succ d ih=>exact yb d ih
theorem yc (d:Nat) (hd:AnyX Tryz.prog T 207 (preE [.i .i64,.i .i64,.s,.l 167] d) (fun x:Int=>.val false [.i .i64 x]) (fun x:Int=>True)):AnyX Tryz.prog T 207 (preE [.i .i64,.i .i64,.s,.l 167] (d+1)) (fun x:Int=>.val false [.i .i64 x]) (fun x:Int=>True):=by
 obtain ⟨g207,k207,q207⟩:=hd
 refine AnyX.of (0) (True.intro) (fokA (fun _ (x:Int)=>.val false [.i .i64 x]) (post:=fun _ (x:Int)=>True) (env:=envL [(207, { pre:=preE [.i .i64,.i .i64,.s,.l 167] d,res:=fun a=>(fun x:Int=>.val false [.i .i64 x]) (g207 a) }),(94,rT)]) (N:=22) tabT (aa k207 (aa xk94 ae)) mixed Tryz.func207 rfl Tryz.call207 Tryz.ntmps207 ?_)
 rintro args ⟨r,hr,rfl⟩ hwf
 refine ⟨by simp,?_⟩
 clear hwf
 obtain ⟨hl,hall,har,hts⟩:=hr.args
 have hlm:(r.getD 3 default).rows.length≤1048576:=jcr hl (by decide)
 rw [Tryz.results207]
 repeat' first
  | (refine And.intro ?_ ?_)
  | (intro h;simp only [reduceCtorEq] at h;done)
  | (intro h;rw [h])
  | (intro h)
 all_goals first
  | skip
 refine am (Q:=_) [1,3,4] [1] (fun n st=>∃ (i:Nat) (m:Int),st=([.ptr 1 1 0,.val false [.i .i64 m],.val false [.i .i64 (i:Int)]],[(1,(rowC [.i .i64,.i .i64,.s,.l 167] r).map fun c=>.val false [c])])∧i≤(r.getD 3 default).rows.length∧n=(r.getD 3 default).rows.length - i) ?_ ?_
 · exact ⟨rfl,(r.getD 3 default).rows.length,0,0,rfl,jcl _,rfl⟩
 rintro n st ⟨i,m,rfl,hle,rfl⟩
 repeat' first
  | (refine And.intro ?_ ?_)
  | (intro h;simp only [reduceCtorEq] at h;done)
  | (intro h;rw [h])
  | (intro h)
 all_goals first
  | exact Or.inr rfl
  | with_reducible exact jcy _
  | (have hi:i < (r.getD 3 default).rows.length:=ltN' (by with_reducible assumption)
     first
      | with_reducible exact jck (by with_reducible assumption)
      | exact ⟨_,d8 hall (by omega),rfl⟩
      | exact ⟨_,_,rfl⟩
      | (refine ⟨(r.getD 3 default).rows.length - (i+1),by omega,i+1,_,congrArg (fun z:Int=>(([.ptr 1 1 0,.val false [.i .i64 _],.val false [.i .i64 z]],[(1,(rowC [.i .i64,.i .i64,.s,.l 167] r).map fun c=>.val false [c])]):Snap)) (d9 hi hlm),by omega,rfl⟩)
      | (show aV _ _;exact rfl))
  | exact ⟨_,True.intro,rfl,True.intro⟩
theorem jce (d:Nat):AnyX Tryz.prog T 207 (preE [.i .i64,.i .i64,.s,.l 167] d) (fun x:Int=>.val false [.i .i64 x]) (fun x:Int=>True):=by
 induction d with
 | zero=>exact AnyX.none (0) True.intro Tryz.call207 (by rintro a ⟨r,hr,_⟩;exact hr.elim)
 | succ d ih=>exact yc d ih
theorem yd (d:Nat) (hd:AnyX Tryz.prog T 206 (ot [.i .i64,.i .i64,.s,.l 167] d) (fun x:Int=>.val false [.i .i64 x]) (fun x:Int=>True)):AnyX Tryz.prog T 206 (ot [.i .i64,.i .i64,.s,.l 167] (d+1)) (fun x:Int=>.val false [.i .i64 x]) (fun x:Int=>True):=by
 obtain ⟨g206,k206,q206⟩:=hd
 refine AnyX.of (0) (True.intro) (fokA (fun _ (x:Int)=>.val false [.i .i64 x]) (post:=fun _ (x:Int)=>True) (env:=envL [(206, { pre:=ot [.i .i64,.i .i64,.s,.l 167] d,res:=fun a=>(fun x:Int=>.val false [.i .i64 x]) (g206 a) })]) (N:=27) tabT (aa k206 ae) mixed Tryz.func206 rfl Tryz.call206 Tryz.ntmps206 ?_)
 rintro args ⟨r,n,hr,rfl⟩ hwf
 refine ⟨by simp,?_⟩
 clear hwf
 obtain ⟨hl,hall,har,hts⟩:=hr.args
 have hlm:(r.getD 3 default).rows.length≤1048576:=jcr hl (by decide)
 rw [Tryz.results206]
 repeat' first
  | (refine And.intro ?_ ?_)
  | (intro h;simp only [reduceCtorEq] at h;done)
  | (intro h;rw [h])
  | (intro h)
 all_goals first
  | skip
 refine am (Q:=_) [1,2,5] [2] (fun n st=>∃ (i:Nat) (m:Int),st=([.val false [.i .i64 m],.ptr 2 1 0,.val false [.i .i64 (i:Int)]],[(1,(rowC [.i .i64,.i .i64,.s,.l 167] r).map fun c=>.val false [c])])∧i≤(r.getD 3 default).rows.length∧n=(r.getD 3 default).rows.length - i) ?_ ?_
 · exact ⟨rfl,(r.getD 3 default).rows.length,0,_,rfl,jcl _,rfl⟩
 rintro n st ⟨i,m,rfl,hle,rfl⟩
 repeat' first
  | (refine And.intro ?_ ?_)
  | (intro h;simp only [reduceCtorEq] at h;done)
  | (intro h;rw [h])
  | (intro h)
 all_goals first
  | exact Or.inr rfl
  | with_reducible exact jcy _
  | (have hi:i < (r.getD 3 default).rows.length:=ltN' (by with_reducible assumption)
     first
      | with_reducible exact jck (by with_reducible assumption)
      | exact ⟨_,_,d8 hall (by omega),rfl⟩
      | exact ⟨_,True.intro,rfl,True.intro⟩
      | (refine ⟨(r.getD 3 default).rows.length - (i+1),by omega,i+1,_,congrArg (fun z:Int=>(([.val false [.i .i64 _],.ptr 2 1 0,.val false [.i .i64 z]],[(1,(rowC [.i .i64,.i .i64,.s,.l 167] r).map fun c=>.val false [c])]):Snap)) (d9 hi hlm),by omega,rfl⟩)
      | (show aV _ _;exact rfl))
  | exact ⟨_,True.intro,rfl,True.intro⟩
theorem jcf (d:Nat):AnyX Tryz.prog T 206 (ot [.i .i64,.i .i64,.s,.l 167] d) (fun x:Int=>.val false [.i .i64 x]) (fun x:Int=>True):=by
 induction d with
 | zero=>exact AnyX.none (0) True.intro Tryz.call206 (by rintro a ⟨r,n,hr,_⟩;exact hr.elim)
 | succ d ih=>exact yd d ih
theorem any184 (d:Nat):AnyX Tryz.prog T 184 (preE [.i .i64,.i .i64,.s,.l 167] d) (fun x:Bool=>.val false [.b x]) (fun x:Bool=>True):=by
 obtain ⟨g208,k208,q208⟩:=jcd d
 obtain ⟨g207,k207,q207⟩:=jce d
 obtain ⟨g206,k206,q206⟩:=jcf d
 refine AnyX.of (false) (True.intro) (fokA (fun _ (x:Bool)=>.val false [.b x]) (post:=fun _ (x:Bool)=>True) (env:=envL [(206, { pre:=ot [.i .i64,.i .i64,.s,.l 167] d,res:=fun a=>(fun x:Int=>.val false [.i .i64 x]) (g206 a) }),(207, { pre:=preE [.i .i64,.i .i64,.s,.l 167] d,res:=fun a=>(fun x:Int=>.val false [.i .i64 x]) (g207 a) }),(208, { pre:=preE [.i .i64,.i .i64,.s,.l 167] d,res:=fun a=>(fun x:Bool=>.val false [.b x]) (g208 a) })]) (N:=15) tabT (aa k206 (aa k207 (aa k208 ae))) mixed Tryz.func184 rfl Tryz.call184 Tryz.ntmps184 ?_)
 rintro args ⟨r,hr,rfl⟩ hwf
 refine ⟨by simp,?_⟩
 clear hwf
 rw [Tryz.results184]
 repeat' first
  | (refine And.intro ?_ ?_)
  | (intro h;simp only [reduceCtorEq] at h;done)
  | (intro h;rw [h])
  | (intro h)
 all_goals first
  | exact Or.inr rfl
  | exact ⟨_,hr,rfl⟩
  | exact ⟨_,_,hr,rfl⟩
  | exact ⟨_,True.intro,rfl,True.intro⟩
end Go.Proofs.YtcllpknipmcolaaGreatDoor.Ab
