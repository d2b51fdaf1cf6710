/- A part. -/
import Derived.Test.YtdkofgjbbdbglaaGreatDoorCJf
import Derived.Test.YtdkofgjbbdbglaaGreatDoorCJz
import Derived.Test.YtdkofgjbbdbglaaGreatDoorCOd
namespace Go.Proofs.YtdkofgjbbdbglaaGreatDoor.Ab
open Go.RowKit
set_option linter.all false
set_option maxRecDepth 100000
set_option maxHeartbeats 2000000
theorem any14:AnyD Tryz.prog T 14 5 (fun m=>m=[]) (fun x:(ByteArray × Int)=>.val true [.s x.1,.i .i64 x.2]) (fun (m:List SV) (x:(ByteArray × Int))=>x.1.size≤900200∧inK .i64 x.2):=by
 obtain ⟨g24,k24,q24⟩:=any24
 obtain ⟨g27,k27,q27⟩:=any27
 refine AnyD.of (fun _=>(⟨#[]⟩,0)) (fun _ _=>⟨jc7 _,kk0⟩) (dM (α:=(ByteArray × Int) × Int × Int) (fun _ z=>(fun x:(ByteArray × Int)=>.val true [.s x.1,.i .i64 x.2]) z.1) (fun a z=>curU 5 a z.2.1 z.2.2) (post:=fun a z=>bo (rowsOf a) z.2.1∧(fun (m:List SV) (x:(ByteArray × Int))=>x.1.size≤900200∧inK .i64 x.2) a.tail z.1) (env:=envL [(24,spD 5 (fun m=>∃ w:Int,(0≤w∧w≤10)∧m=[.val false [.i .i64 w]]) (fun x:List (List D)=>.val false [.sl false 33 x]) g24),(7,(spWr T [.s,.i .i64] cO SmO (fun a=>recT (aJ a)))),(25,(kW 5)),(26,(vp T [.s,.i .i64])),(27,spD 5 (fun m=>∃ l:List (List D),bT (l.length:Int)∧m=[argS 3 l]) (fun x:Int=>.val false [.i .i64 x]) g27)]) (N:=39) tabT (aa k24 (aa (ok7 _ (fun a h=>jdd l7 (Nat.add_le_add_right (eY h) 12)) okR18) (aa ok25 (aa ok26 (aa k27 ae))))) mixed Tryz.func14 rfl Tryz.call14 Tryz.ntmps14 ?_)
 rintro cs args ⟨rows,i,h0,more,ok,hp,he⟩ hwf
 obtain ⟨rfl,rfl⟩:cs=curC 5 rows i h0∧args=more:=by simpa only [jdw,SV.tup.injEq,jdA,true_and,and_true] using he
 obtain rfl:=hp
 refine ⟨by simp,?_⟩
 clear he hwf
 rw [Tryz.results14]
 repeat' first
  | refine And.intro ?_ ?_
  | (intro h;simp only [reduceCtorEq] at h;done)
  | (intro h;rw [h])
  | intro h
 all_goals first
  | (show List.length _=_;rfl)
  | refine ⟨_,_,_,_,?_,⟨_,⟨by decide,by decide⟩,rfl⟩,rfl⟩
  | skip
 all_goals try ((with_reducible show bo _ _);repeat (first|exact ok|exact ok1|exact ok2|refine am ?_|refine (q24 _ _ _ _ ?_ ⟨_,⟨by decide,by decide⟩,rfl⟩).1|refine (q27 _ _ _ _ ?_ ⟨_,(by exact (show bT ((3:Nat):Int) from ⟨by decide,by decide⟩)),rfl⟩).1))
 refine aj (Q:=_) [0,2,3,4,5] [39,2,3] (fun n st=>∃ (i:Nat) (s:ByteArray) (y:Int) (l:List (List D)) (I H:Int),st=([.ptr 39 0 0,.ptr 2 1 0,.ptr 3 1 0,argS 33 l,.val false [.i .i64 (i:Int)]],[(0,[.val false [.sl false 5 rows],.val false [.i .i64 I],.val false [.i .i64 H]]),(1,[.val false [.s ByteArray.empty],.val false [.i .i64 0]]),(1,[.val false [.s s],.val false [.i .i64 y]])])∧i≤l.length∧(∀ y ∈ l,OpD y)∧l.length≤10∧s.size≤90012 * i∧inK .i64 y∧bo rows I∧n=l.length - i) ?_ ?_
 · exact ⟨rfl,_,0,_,_,_,_,_,rfl,jc7 _,(q24 _ _ _ _ (by repeat (first|exact ok|exact ok1|exact ok2|refine am ?_|refine (q24 _ _ _ _ ?_ ⟨_,⟨by decide,by decide⟩,rfl⟩).1|refine (q27 _ _ _ _ ?_ ⟨_,(by exact (show bT ((3:Nat):Int) from ⟨by decide,by decide⟩)),rfl⟩).1)) ⟨_,⟨by decide,by decide⟩,rfl⟩).2.1,(q24 _ _ _ _ (by repeat (first|exact ok|exact ok1|exact ok2|refine am ?_|refine (q24 _ _ _ _ ?_ ⟨_,⟨by decide,by decide⟩,rfl⟩).1|refine (q27 _ _ _ _ ?_ ⟨_,(by exact (show bT ((3:Nat):Int) from ⟨by decide,by decide⟩)),rfl⟩).1)) ⟨_,⟨by decide,by decide⟩,rfl⟩).2.2,jdm _,kk0,(by repeat (first|exact ok|exact ok1|exact ok2|refine am ?_|refine (q24 _ _ _ _ ?_ ⟨_,⟨by decide,by decide⟩,rfl⟩).1|refine (q27 _ _ _ _ ?_ ⟨_,(by exact (show bT ((3:Nat):Int) from ⟨by decide,by decide⟩)),rfl⟩).1)),rfl⟩
 rintro n st ⟨i,s,y,l,I,H,rfl,hle,hA,hll,hs,hy,ok1,rfl⟩
 have hs9:s.size≤900120:=by omega
 repeat' first
  | refine And.intro ?_ ?_
  | (intro h;simp only [reduceCtorEq] at h;done)
  | (intro h;rw [h])
  | intro h
 all_goals first
  | (show av _=true;kernel_rfl)
  | (show ba _ _=true;kernel_rfl)
  | exact Or.inr rfl
  | (show aX _ _;rfl)
  | (show List.length _=_;rfl)
  | with_reducible exact jdk _
  | exact ⟨_,_,_,_,(by repeat (first|exact ok|exact ok1|exact ok2|refine am ?_|refine (q24 _ _ _ _ ?_ ⟨_,⟨by decide,by decide⟩,rfl⟩).1|refine (q27 _ _ _ _ ?_ ⟨_,(by exact (show bT ((3:Nat):Int) from ⟨by decide,by decide⟩)),rfl⟩).1)),⟨by decide,by decide⟩,rfl⟩
  | (have hi:i < l.length:=ltN' (by with_reducible assumption)
     have hop:OpD (l.getD i []):=OpD.at hA hi
     first
      | with_reducible exact jc6 (by with_reducible assumption)
      | exact ⟨[.s s,.i y],l.getD i [],yo (jdd hs9 (by decide)) hy,hop.wf,hop.sm,jdd hs9 (by decide),rfl⟩
      | (refine ⟨[.s _,.i y],yo (jdd ?_ (show 90012 * (i+1)≤900200 by omega)) hy,rfl⟩;exact (wr90 hs (pQ hop)))
      | (refine ⟨l.length - (i+1),by omega,i+1,_,y,l,_,_,congrArg (fun z:Int=>(([.ptr 39 0 0,.ptr 2 1 0,.ptr 3 1 0,argS 33 l,.val false [.i .i64 z]],[(0,[.val false [.sl false 5 rows],.val false [.i .i64 _],.val false [.i .i64 _]]),(1,[.val false [.s ByteArray.empty],.val false [.i .i64 0]]),(1,[.val false [.s _],.val false [.i .i64 _]])]):Snap)) (dG hi (by omega)),by omega,hA,hll,(wr90 hs (pQ hop)),hy,(by repeat (first|exact ok|exact ok1|exact ok2|refine am ?_|refine (q24 _ _ _ _ ?_ ⟨_,⟨by decide,by decide⟩,rfl⟩).1|refine (q27 _ _ _ _ ?_ ⟨_,(by exact (show bT ((3:Nat):Int) from ⟨by decide,by decide⟩)),rfl⟩).1)),rfl⟩)
      | (refine ⟨l.length - (i+1),by omega,i+1,_,_,l,_,_,congrArg (fun z:Int=>(([.ptr 39 0 0,.ptr 2 1 0,.ptr 3 1 0,argS 33 l,.val false [.i .i64 z]],[(0,[.val false [.sl false 5 rows],.val false [.i .i64 _],.val false [.i .i64 _]]),(1,[.val false [.s ByteArray.empty],.val false [.i .i64 0]]),(1,[.val false [.s _],.val false [.i .i64 _]])]):Snap)) (dG hi (by omega)),by omega,hA,hll,(wr90 hs (pQ hop)),su (jdd (wr90 hs (pQ hop)) (show 90012 * (i+1)≤1048576 by omega)),(by repeat (first|exact ok|exact ok1|exact ok2|refine am ?_|refine (q24 _ _ _ _ ?_ ⟨_,⟨by decide,by decide⟩,rfl⟩).1|refine (q27 _ _ _ _ ?_ ⟨_,(by exact (show bT ((3:Nat):Int) from ⟨by decide,by decide⟩)),rfl⟩).1)),rfl⟩))
  | exact ⟨_,_,_,_,(by repeat (first|exact ok|exact ok1|exact ok2|refine am ?_|refine (q24 _ _ _ _ ?_ ⟨_,⟨by decide,by decide⟩,rfl⟩).1|refine (q27 _ _ _ _ ?_ ⟨_,(by exact (show bT ((3:Nat):Int) from ⟨by decide,by decide⟩)),rfl⟩).1)),⟨_,(by exact (show bT ((3:Nat):Int) from ⟨by decide,by decide⟩)),rfl⟩,rfl⟩
  | (refine ⟨((_,_),_,_),⟨(by repeat (first|exact ok|exact ok1|exact ok2|refine am ?_|refine (q24 _ _ _ _ ?_ ⟨_,⟨by decide,by decide⟩,rfl⟩).1|refine (q27 _ _ _ _ ?_ ⟨_,(by exact (show bT ((3:Nat):Int) from ⟨by decide,by decide⟩)),rfl⟩).1)),?_⟩,rfl,rfl,True.intro⟩
     refine ⟨(show s.size≤900200 by omega),?_⟩
     first
      | exact hy
      | exact (q27 _ _ _ _ (by repeat (first|exact ok|exact ok1|exact ok2|refine am ?_|refine (q24 _ _ _ _ ?_ ⟨_,⟨by decide,by decide⟩,rfl⟩).1|refine (q27 _ _ _ _ ?_ ⟨_,(by exact (show bT ((3:Nat):Int) from ⟨by decide,by decide⟩)),rfl⟩).1)) ⟨_,(by exact (show bT ((3:Nat):Int) from ⟨by decide,by decide⟩)),rfl⟩).2 (inK .i64) kk0 (by intro r hr;simp only [az,jdf,jdc,jde,jda,or_false] at hr;rcases hr with rfl|rfl|rfl <;> first|exact aV _ _|exact ⟨by decide,by decide⟩))
theorem any5:AnyX Tryz.prog T 5 (fun a=>∃ rows:List (List D),rows.length≤1048576∧a=[argS 5 rows]) (fun x:((ByteArray × Int) × OLs)=>.tup [(true,[.s x.1.1,.i .i64 x.1.2]),(true,[.i .i64 x.2.a0,.i .i64 x.2.a1,.i .i64 x.2.a2,.sl false 3 x.2.sn,.i .i64 x.2.e.k,.i .i64 x.2.e.at_,.i .i64 x.2.e.c.id,.i .i64 x.2.e.c.ve,.i .i64 x.2.e.c.k,.s x.2.e.c.nm,.s x.2.e.c.cd,.i .i64 x.2.e.c.n,.s x.2.fr,.s x.2.tt,.i .i64 x.2.ce,.i .i64 x.2.ve,.sl false 76 x.2.rd])]) (fun x:((ByteArray × Int) × OLs)=>(x.1.1.size≤900200∧inK .i64 x.1.2)∧x.2.ok):=by
 obtain ⟨g14,k14,q14⟩:=any14
 obtain ⟨g15,k15,q15⟩:=any15
 refine AnyX.of (((⟨#[]⟩,0),zOL)) (⟨⟨jc7 _,kk0⟩,rp⟩) (fokA (fun _ (x:((ByteArray × Int) × OLs))=>.tup [(true,[.s x.1.1,.i .i64 x.1.2]),(true,[.i .i64 x.2.a0,.i .i64 x.2.a1,.i .i64 x.2.a2,.sl false 3 x.2.sn,.i .i64 x.2.e.k,.i .i64 x.2.e.at_,.i .i64 x.2.e.c.id,.i .i64 x.2.e.c.ve,.i .i64 x.2.e.c.k,.s x.2.e.c.nm,.s x.2.e.c.cd,.i .i64 x.2.e.c.n,.s x.2.fr,.s x.2.tt,.i .i64 x.2.ce,.i .i64 x.2.ve,.sl false 76 x.2.rd])]) (post:=fun _ (x:((ByteArray × Int) × OLs))=>(x.1.1.size≤900200∧inK .i64 x.1.2)∧x.2.ok) (env:=envL [(13,(r8 5)),(14,spD 5 (fun m=>m=[]) (fun x:(ByteArray × Int)=>.val true [.s x.1,.i .i64 x.2]) g14),(15,spD 5 (fun m=>m=[]) (fun x:OLs=>.val true [.i .i64 x.a0,.i .i64 x.a1,.i .i64 x.a2,.sl false 3 x.sn,.i .i64 x.e.k,.i .i64 x.e.at_,.i .i64 x.e.c.id,.i .i64 x.e.c.ve,.i .i64 x.e.c.k,.s x.e.c.nm,.s x.e.c.cd,.i .i64 x.e.c.n,.s x.fr,.s x.tt,.i .i64 x.ce,.i .i64 x.ve,.sl false 76 x.rd]) g15)]) (N:=11) tabT (aa ok13 (aa k14 (aa k15 ae))) mixed Tryz.func5 rfl Tryz.call5 Tryz.ntmps5 ?_)
 rintro args ⟨rows,hr,rfl⟩ hwf
 refine ⟨by simp,?_⟩
 clear hwf
 rw [Tryz.results5]
 repeat' first
  | refine And.intro ?_ ?_
  | (intro h;simp only [reduceCtorEq] at h;done)
  | (intro h;rw [h])
  | intro h
 all_goals first
  | exact Or.inr rfl
  | exact ⟨_,hr,rfl⟩
  | (show List.length _=_;rfl)
  | refine ⟨_,_,_,_,?_,rfl,rfl⟩
  | (refine ⟨((_,_),⟨_,_,_,_,⟨_,_,⟨_,_,_,_,_,_⟩⟩,_,_,_,_,_⟩),⟨?_,?_⟩,rfl,True.intro⟩;exact (q14 _ _ _ _ (by repeat (first|exact ok|exact ok1|exact ok2|exact cur0 hr|refine am ?_|refine (q14 _ _ _ _ ?_ rfl).1|refine (q15 _ _ _ _ ?_ rfl).1)) rfl).2;exact (q15 _ _ _ _ (by repeat (first|exact ok|exact ok1|exact ok2|exact cur0 hr|refine am ?_|refine (q14 _ _ _ _ ?_ rfl).1|refine (q15 _ _ _ _ ?_ rfl).1)) rfl).2)
 all_goals repeat (first|exact ok|exact ok1|exact ok2|exact cur0 hr|refine am ?_|refine (q14 _ _ _ _ ?_ rfl).1|refine (q15 _ _ _ _ ?_ rfl).1)
end Go.Proofs.YtdkofgjbbdbglaaGreatDoor.Ab
