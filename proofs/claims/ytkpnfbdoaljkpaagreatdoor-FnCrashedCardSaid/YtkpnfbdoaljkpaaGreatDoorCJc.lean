/- Whether expressions are valid: printed by a program of this -/
import Derived.Test.YtkpnfbdoaljkpaaGreatDoorCJa
import Derived.Test.YtkpnfbdoaljkpaaGreatDoorCYd
namespace Go.Proofs.YtkpnfbdoaljkpaaGreatDoor.Ab
open Go.RowKit
set_option linter.all false
set_option maxRecDepth 100000
set_option maxHeartbeats 2000000
theorem any279:AnyX Tryz.prog T 279 (fun a=>∃ s:ByteArray,a=[.val false [.s s]]) (fun x:Int=>.val false [.i .i64 x]) (fun x:Int=>True):=by
 refine AnyX.of (0) (True.intro) (fokA (fun _ (x:Int)=>.val false [.i .i64 x]) (post:=fun _ (x:Int)=>True) (env:=envL []) (N:=26) tabT ae mixed Tryz.func279 rfl Tryz.call279 Tryz.ntmps279 ?_)
 rintro args ⟨s,rfl⟩ hwf
 refine ⟨by simp,?_⟩
 clear hwf
 rw [Tryz.results279]
 repeat' first
  | (refine And.intro ?_ ?_)
  | (intro h;simp only [reduceCtorEq] at h;done)
  | (intro h;rw [h])
  | (intro h)
 all_goals first
  | (show ac _=true;kernel_rfl)|(show aj _ _=true;kernel_rfl)|exact True.intro|exact Or.inr rfl|exact Or.inl rfl
  | exact ⟨_,True.intro,rfl,by decide,True.intro⟩
  | exact ⟨_,True.intro,rfl,True.intro⟩
  | skip
theorem any276:AnyX Tryz.prog T 276 (fun a=>∃ r:List D,a=[argG [.i .i64,.i .i64,.s,.l 199] r]) (fun x:Bool=>.val false [.b x]) (fun x:Bool=>True):=by
 obtain ⟨g279,k279,q279⟩:=any279
 refine AnyX.of (false) (True.intro) (fokA (fun _ (x:Bool)=>.val false [.b x]) (post:=fun _ (x:Bool)=>True) (env:=envL [(49,spIn),(148,(spTB okTxt)),(211,(spTB cD)),(279, { pre:=fun a=>∃ s:ByteArray,a=[.val false [.s s]],res:=fun a=>(fun x:Int=>.val false [.i .i64 x]) (g279 a) })]) (N:=120) tabT (aa ok49 (aa xk148 (aa xk211 (aa k279 ae)))) mixed Tryz.func276 rfl Tryz.call276 Tryz.ntmps276 ?_)
 rintro args ⟨r,rfl⟩ hwf
 refine ⟨by simp,?_⟩
 clear hwf
 rw [Tryz.results276]
 repeat' first
  | (refine And.intro ?_ ?_)
  | (intro h;simp only [reduceCtorEq] at h;done)
  | (intro h;rw [h])
  | (intro h)
 all_goals first
  | (show ac _=true;kernel_rfl)|(show aj _ _=true;kernel_rfl)|exact True.intro|exact Or.inr rfl|exact Or.inl rfl
  | exact ⟨_,rfl⟩
  | exact ⟨_,_,_,rfl⟩
  | exact ⟨_,True.intro,rfl,True.intro⟩
  | skip
theorem any263:AnyX Tryz.prog T 263 (fun a=>∃ r:List D,a=[argG [.i .i64,.i .i64,.s,.l 199] r]) (fun x:Int=>.val false [.i .i64 x]) (fun x:Int=>True):=by
 refine AnyX.of (0) (True.intro) (fokA (fun _ (x:Int)=>.val false [.i .i64 x]) (post:=fun _ (x:Int)=>True) (env:=envL []) (N:=21) tabT ae mixed Tryz.func263 rfl Tryz.call263 Tryz.ntmps263 ?_)
 rintro args ⟨r,rfl⟩ hwf
 refine ⟨by simp,?_⟩
 clear hwf
 rw [Tryz.results263]
 repeat' first
  | (refine And.intro ?_ ?_)
  | (intro h;simp only [reduceCtorEq] at h;done)
  | (intro h;rw [h])
  | (intro h)
 all_goals first
  | (show ac _=true;kernel_rfl)|(show aj _ _=true;kernel_rfl)|exact True.intro|exact Or.inr rfl|exact Or.inl rfl
  | exact ⟨_,True.intro,rfl,by decide,True.intro⟩
  | exact ⟨_,True.intro,rfl,True.intro⟩
  | skip
theorem any265:AnyX Tryz.prog T 265 (fun a=>∃ n:Int,a=[.val false [.i .i64 n]]) (fun x:ByteArray=>.val false [.s x]) (fun x:ByteArray=>x.size≤2):=by
 refine AnyX.of (⟨#[]⟩) (jaU _) (fokA (fun _ (x:ByteArray)=>.val false [.s x]) (post:=fun _ (x:ByteArray)=>x.size≤2) (env:=envL [(49,spIn)]) (N:=10) tabT (aa ok49 ae) mixed Tryz.func265 rfl Tryz.call265 Tryz.ntmps265 ?_)
 rintro args ⟨s,rfl⟩ hwf
 refine ⟨by simp,?_⟩
 clear hwf
 rw [Tryz.results265]
 repeat' first
  | (refine And.intro ?_ ?_)
  | (intro h;simp only [reduceCtorEq] at h;done)
  | (intro h;rw [h])
  | (intro h)
 all_goals first
  | (show ac _=true;kernel_rfl)|(show aj _ _=true;kernel_rfl)|exact True.intro|exact Or.inr rfl|exact Or.inl rfl
  | exact ⟨_,_,_,rfl⟩
  | exact ⟨_,(by decide),rfl,True.intro⟩
  | (have:=(r7 (by assumption)).1;omega)
  | (have:=r7 (by assumption);show s < ((6:Nat):Int);omega)
  | (have:=r7 (by assumption);show s.toNat < 6;omega)
  | exact ⟨_,ah (P:=fun t=>t.size≤2) (jaU _) (by intro r hr;simp only [az,ja2,jaZ,ja1,jaX,or_false] at hr;rcases hr with rfl|rfl|rfl|rfl|rfl|rfl <;> decide) _,rfl,True.intro⟩
  | skip
theorem wc (d:Nat) (hd:AnyX Tryz.prog T 261 (preE [.i .i64,.i .i64,.s,.l 199] d) (fun x:Bool=>.val false [.b x]) (fun x:Bool=>True)):AnyX Tryz.prog T 261 (preE [.i .i64,.i .i64,.s,.l 199] (d+1)) (fun x:Bool=>.val false [.b x]) (fun x:Bool=>True):=by
 obtain ⟨g261,k261,q261⟩:=hd
 obtain ⟨g276,k276,q276⟩:=any276
 refine AnyX.of (false) (True.intro) (fokA (fun _ (x:Bool)=>.val false [.b x]) (post:=fun _ (x:Bool)=>True) (env:=envL [(261, { pre:=preE [.i .i64,.i .i64,.s,.l 199] d,res:=fun a=>(fun x:Bool=>.val false [.b x]) (g261 a) }),(276, { pre:=fun a=>∃ r:List D,a=[argG [.i .i64,.i .i64,.s,.l 199] r],res:=fun a=>(fun x:Bool=>.val false [.b x]) (g276 a) })]) (N:=20) tabT (aa k261 (aa k276 ae)) mixed Tryz.func261 rfl Tryz.call261 Tryz.ntmps261 ?_)
 rintro args ⟨r,hr,rfl⟩ hwf
 refine ⟨by simp,?_⟩
 clear hwf
 obtain ⟨hl,hall,har,hts⟩:=hr.args
 have hlm:(r.getD 3 default).rows.length≤1048576:=ja0 hl (by decide)
 rw [Tryz.results261]
 repeat' first
  | (refine And.intro ?_ ?_)
  | (intro h;simp only [reduceCtorEq] at h;done)
  | (intro h;rw [h])
  | (intro h)
 all_goals first
  | (show ac _=true;kernel_rfl)|(show aj _ _=true;kernel_rfl)|exact True.intro|exact Or.inr rfl|exact Or.inl rfl
  | skip
 refine ar (Q:=_) [1,3] [1] (fun n st=>∃ (i:Nat),st=([.ptr 1 1 0,.val false [.i .i64 (i:Int)]],[(1,(rowC [.i .i64,.i .i64,.s,.l 199] r).map fun c=>.val false [c])])∧i≤(r.getD 3 default).rows.length∧n=(r.getD 3 default).rows.length - i) ?_ ?_
 · exact ⟨rfl,(r.getD 3 default).rows.length,0,rfl,jaU _,rfl⟩
 rintro n st ⟨i,rfl,hle,rfl⟩
 repeat' first
  | (refine And.intro ?_ ?_)
  | (intro h;simp only [reduceCtorEq] at h;done)
  | (intro h;rw [h])
  | (intro h)
 all_goals first
  | (show ac _=true;kernel_rfl)|(show aj _ _=true;kernel_rfl)|exact True.intro|exact Or.inr rfl|exact Or.inl rfl
  | with_reducible exact ja7 _
  | (have hi:i < (r.getD 3 default).rows.length:=ltN' (by with_reducible assumption)
     first
      | with_reducible exact jaT (by with_reducible assumption)
      | (show (Int.toNat (i:Int)) < _;rw [jbf];exact hi)
      | (show (i:Int) < _;omega)
      | exact ⟨_,di hall (by omega),rfl⟩
      | exact ⟨_,rfl⟩
      | exact ⟨_,True.intro,rfl,True.intro⟩
      | (refine ⟨(r.getD 3 default).rows.length - (i+1),by omega,i+1,congrArg (fun z:Int=>(([.ptr 1 1 0,.val false [.i .i64 z]],[(1,(rowC [.i .i64,.i .i64,.s,.l 199] r).map fun c=>.val false [c])]):Snap)) (bU hi hlm),by omega,rfl⟩)
      | (show aL _ _;exact rfl))
  | exact ⟨_,di hall (by omega),rfl⟩
  | exact ⟨_,rfl⟩
  | exact ⟨_,True.intro,rfl,True.intro⟩
  | (refine ⟨(r.getD 3 default).rows.length - (i+1),by omega,i+1,congrArg (fun z:Int=>(([.ptr 1 1 0,.val false [.i .i64 z]],[(1,(rowC [.i .i64,.i .i64,.s,.l 199] r).map fun c=>.val false [c])]):Snap)) (bU hi hlm),by omega,rfl⟩)
  | (show aL _ _;exact rfl)
  | skip
theorem jaK (d:Nat):AnyX Tryz.prog T 261 (preE [.i .i64,.i .i64,.s,.l 199] d) (fun x:Bool=>.val false [.b x]) (fun x:Bool=>True):=by
 induction d with
 | zero=>exact AnyX.none (false) True.intro Tryz.call261 (by rintro a ⟨r,hr,_⟩;exact hr.elim)
 | succ d ih=>exact wc d ih
theorem wd (d:Nat) (hd:AnyX Tryz.prog T 260 (preE [.i .i64,.i .i64,.s,.l 199] d) (fun x:Int=>.val false [.i .i64 x]) (fun x:Int=>True)):AnyX Tryz.prog T 260 (preE [.i .i64,.i .i64,.s,.l 199] (d+1)) (fun x:Int=>.val false [.i .i64 x]) (fun x:Int=>True):=by
 obtain ⟨g260,k260,q260⟩:=hd
 refine AnyX.of (0) (True.intro) (fokA (fun _ (x:Int)=>.val false [.i .i64 x]) (post:=fun _ (x:Int)=>True) (env:=envL [(260, { pre:=preE [.i .i64,.i .i64,.s,.l 199] d,res:=fun a=>(fun x:Int=>.val false [.i .i64 x]) (g260 a) }),(47,ww)]) (N:=22) tabT (aa k260 (aa xk47 ae)) mixed Tryz.func260 rfl Tryz.call260 Tryz.ntmps260 ?_)
 rintro args ⟨r,hr,rfl⟩ hwf
 refine ⟨by simp,?_⟩
 clear hwf
 obtain ⟨hl,hall,har,hts⟩:=hr.args
 have hlm:(r.getD 3 default).rows.length≤1048576:=ja0 hl (by decide)
 rw [Tryz.results260]
 repeat' first
  | (refine And.intro ?_ ?_)
  | (intro h;simp only [reduceCtorEq] at h;done)
  | (intro h;rw [h])
  | (intro h)
 all_goals first
  | (show ac _=true;kernel_rfl)|(show aj _ _=true;kernel_rfl)|exact True.intro|exact Or.inr rfl|exact Or.inl rfl
  | skip
 refine ar (Q:=_) [1,3,4] [1] (fun n st=>∃ (i:Nat) (m:Int),st=([.ptr 1 1 0,.val false [.i .i64 m],.val false [.i .i64 (i:Int)]],[(1,(rowC [.i .i64,.i .i64,.s,.l 199] r).map fun c=>.val false [c])])∧i≤(r.getD 3 default).rows.length∧n=(r.getD 3 default).rows.length - i) ?_ ?_
 · exact ⟨rfl,(r.getD 3 default).rows.length,0,0,rfl,jaU _,rfl⟩
 rintro n st ⟨i,m,rfl,hle,rfl⟩
 repeat' first
  | (refine And.intro ?_ ?_)
  | (intro h;simp only [reduceCtorEq] at h;done)
  | (intro h;rw [h])
  | (intro h)
 all_goals first
  | (show ac _=true;kernel_rfl)|(show aj _ _=true;kernel_rfl)|exact True.intro|exact Or.inr rfl|exact Or.inl rfl
  | with_reducible exact ja7 _
  | (have hi:i < (r.getD 3 default).rows.length:=ltN' (by with_reducible assumption)
     first
      | with_reducible exact jaT (by with_reducible assumption)
      | (show (Int.toNat (i:Int)) < _;rw [jbf];exact hi)
      | (show (i:Int) < _;omega)
      | exact ⟨_,di hall (by omega),rfl⟩
      | exact ⟨_,_,rfl⟩
      | exact ⟨_,True.intro,rfl,aK _ _,True.intro⟩
      | exact ⟨_,True.intro,rfl,True.intro⟩
      | (refine ⟨(r.getD 3 default).rows.length - (i+1),by omega,i+1,_,congrArg (fun z:Int=>(([.ptr 1 1 0,.val false [.i .i64 _],.val false [.i .i64 z]],[(1,(rowC [.i .i64,.i .i64,.s,.l 199] r).map fun c=>.val false [c])]):Snap)) (bU hi hlm),by omega,rfl⟩)
      | (show aL _ _;exact rfl))
  | exact ⟨_,di hall (by omega),rfl⟩
  | exact ⟨_,_,rfl⟩
  | exact ⟨_,True.intro,rfl,aK _ _,True.intro⟩
  | exact ⟨_,True.intro,rfl,True.intro⟩
  | (refine ⟨(r.getD 3 default).rows.length - (i+1),by omega,i+1,_,congrArg (fun z:Int=>(([.ptr 1 1 0,.val false [.i .i64 _],.val false [.i .i64 z]],[(1,(rowC [.i .i64,.i .i64,.s,.l 199] r).map fun c=>.val false [c])]):Snap)) (bU hi hlm),by omega,rfl⟩)
  | (show aL _ _;exact rfl)
  | skip
theorem jaL (d:Nat):AnyX Tryz.prog T 260 (preE [.i .i64,.i .i64,.s,.l 199] d) (fun x:Int=>.val false [.i .i64 x]) (fun x:Int=>True):=by
 induction d with
 | zero=>exact AnyX.none (0) True.intro Tryz.call260 (by rintro a ⟨r,hr,_⟩;exact hr.elim)
 | succ d ih=>exact wd d ih
theorem wg (d:Nat) (hd:AnyX Tryz.prog T 259 (nD [.i .i64,.i .i64,.s,.l 199] d) (fun x:Int=>.val false [.i .i64 x]) (fun x:Int=>True)):AnyX Tryz.prog T 259 (nD [.i .i64,.i .i64,.s,.l 199] (d+1)) (fun x:Int=>.val false [.i .i64 x]) (fun x:Int=>True):=by
 obtain ⟨g259,k259,q259⟩:=hd
 refine AnyX.of (0) (True.intro) (fokA (fun _ (x:Int)=>.val false [.i .i64 x]) (post:=fun _ (x:Int)=>True) (env:=envL [(259, { pre:=nD [.i .i64,.i .i64,.s,.l 199] d,res:=fun a=>(fun x:Int=>.val false [.i .i64 x]) (g259 a) })]) (N:=27) tabT (aa k259 ae) mixed Tryz.func259 rfl Tryz.call259 Tryz.ntmps259 ?_)
 rintro args ⟨r,n,hr,rfl⟩ hwf
 refine ⟨by simp,?_⟩
 clear hwf
 obtain ⟨hl,hall,har,hts⟩:=hr.args
 have hlm:(r.getD 3 default).rows.length≤1048576:=ja0 hl (by decide)
 rw [Tryz.results259]
 repeat' first
  | (refine And.intro ?_ ?_)
  | (intro h;simp only [reduceCtorEq] at h;done)
  | (intro h;rw [h])
  | (intro h)
 all_goals first
  | (show ac _=true;kernel_rfl)|(show aj _ _=true;kernel_rfl)|exact True.intro|exact Or.inr rfl|exact Or.inl rfl
  | skip
 refine ar (Q:=_) [1,2,5] [2] (fun n st=>∃ (i:Nat) (m:Int),st=([.val false [.i .i64 m],.ptr 2 1 0,.val false [.i .i64 (i:Int)]],[(1,(rowC [.i .i64,.i .i64,.s,.l 199] r).map fun c=>.val false [c])])∧i≤(r.getD 3 default).rows.length∧n=(r.getD 3 default).rows.length - i) ?_ ?_
 · exact ⟨rfl,(r.getD 3 default).rows.length,0,_,rfl,jaU _,rfl⟩
 rintro n st ⟨i,m,rfl,hle,rfl⟩
 repeat' first
  | (refine And.intro ?_ ?_)
  | (intro h;simp only [reduceCtorEq] at h;done)
  | (intro h;rw [h])
  | (intro h)
 all_goals first
  | (show ac _=true;kernel_rfl)|(show aj _ _=true;kernel_rfl)|exact True.intro|exact Or.inr rfl|exact Or.inl rfl
  | with_reducible exact ja7 _
  | (have hi:i < (r.getD 3 default).rows.length:=ltN' (by with_reducible assumption)
     first
      | with_reducible exact jaT (by with_reducible assumption)
      | (show (Int.toNat (i:Int)) < _;rw [jbf];exact hi)
      | (show (i:Int) < _;omega)
      | exact ⟨_,_,di hall (by omega),rfl⟩
      | exact ⟨_,_,rfl⟩
      | exact ⟨_,True.intro,rfl,aK _ _,True.intro⟩
      | exact ⟨_,True.intro,rfl,True.intro⟩
      | (refine ⟨(r.getD 3 default).rows.length - (i+1),by omega,i+1,_,congrArg (fun z:Int=>(([.val false [.i .i64 _],.ptr 2 1 0,.val false [.i .i64 z]],[(1,(rowC [.i .i64,.i .i64,.s,.l 199] r).map fun c=>.val false [c])]):Snap)) (bU hi hlm),by omega,rfl⟩)
      | (show aL _ _;exact rfl))
  | exact ⟨_,_,di hall (by omega),rfl⟩
  | exact ⟨_,_,rfl⟩
  | exact ⟨_,True.intro,rfl,aK _ _,True.intro⟩
  | exact ⟨_,True.intro,rfl,True.intro⟩
  | (refine ⟨(r.getD 3 default).rows.length - (i+1),by omega,i+1,_,congrArg (fun z:Int=>(([.val false [.i .i64 _],.ptr 2 1 0,.val false [.i .i64 z]],[(1,(rowC [.i .i64,.i .i64,.s,.l 199] r).map fun c=>.val false [c])]):Snap)) (bU hi hlm),by omega,rfl⟩)
  | (show aL _ _;exact rfl)
  | skip
theorem jaM (d:Nat):AnyX Tryz.prog T 259 (nD [.i .i64,.i .i64,.s,.l 199] d) (fun x:Int=>.val false [.i .i64 x]) (fun x:Int=>True):=by
 induction d with
 | zero=>exact AnyX.none (0) True.intro Tryz.call259 (by rintro a ⟨r,n,hr,_⟩;exact hr.elim)
 | succ d ih=>exact wg d ih
theorem any240 (d:Nat):AnyX Tryz.prog T 240 (preE [.i .i64,.i .i64,.s,.l 199] d) (fun x:Bool=>.val false [.b x]) (fun x:Bool=>True):=by
 obtain ⟨g261,k261,q261⟩:=jaK d
 obtain ⟨g260,k260,q260⟩:=jaL d
 obtain ⟨g259,k259,q259⟩:=jaM d
 refine AnyX.of (false) (True.intro) (fokA (fun _ (x:Bool)=>.val false [.b x]) (post:=fun _ (x:Bool)=>True) (env:=envL [(259, { pre:=nD [.i .i64,.i .i64,.s,.l 199] d,res:=fun a=>(fun x:Int=>.val false [.i .i64 x]) (g259 a) }),(260, { pre:=preE [.i .i64,.i .i64,.s,.l 199] d,res:=fun a=>(fun x:Int=>.val false [.i .i64 x]) (g260 a) }),(261, { pre:=preE [.i .i64,.i .i64,.s,.l 199] d,res:=fun a=>(fun x:Bool=>.val false [.b x]) (g261 a) })]) (N:=15) tabT (aa k259 (aa k260 (aa k261 ae))) mixed Tryz.func240 rfl Tryz.call240 Tryz.ntmps240 ?_)
 rintro args ⟨r,hr,rfl⟩ hwf
 refine ⟨by simp,?_⟩
 clear hwf
 rw [Tryz.results240]
 repeat' first
  | (refine And.intro ?_ ?_)
  | (intro h;simp only [reduceCtorEq] at h;done)
  | (intro h;rw [h])
  | (intro h)
 all_goals first
  | (show ac _=true;kernel_rfl)|(show aj _ _=true;kernel_rfl)|exact True.intro|exact Or.inr rfl|exact Or.inl rfl
  | exact ⟨_,hr,rfl⟩
  | exact ⟨_,_,hr,rfl⟩
  | exact ⟨_,True.intro,rfl,True.intro⟩
  | skip
end Go.Proofs.YtkpnfbdoaljkpaaGreatDoor.Ab
