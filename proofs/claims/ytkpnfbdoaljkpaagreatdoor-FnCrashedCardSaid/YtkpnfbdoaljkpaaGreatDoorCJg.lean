/- Drawn disks and stores: printed by a program of this -/
import Derived.Test.YtkpnfbdoaljkpaaGreatDoorCJf
import Derived.Test.YtkpnfbdoaljkpaaGreatDoorCJz
import Derived.Test.YtkpnfbdoaljkpaaGreatDoorCOi
namespace Go.Proofs.YtkpnfbdoaljkpaaGreatDoor.Ab
open Go.RowKit
set_option linter.all false
set_option maxRecDepth 100000
set_option maxHeartbeats 2000000
theorem any40:AnyD Tryz.prog T 40 5 (fun m=>m=[]) (fun x:(ByteArray × Int)=>.val true [.s x.1,.i .i64 x.2]) (fun (m:List SV) (x:(ByteArray × Int))=>x.1.size≤900200∧inK .i64 x.2):=by
 obtain ⟨g82,k82,q82⟩:=any82
 obtain ⟨g85,k85,q85⟩:=any85
 refine AnyD.of (fun _=>(⟨#[]⟩,0)) (fun _ _=>⟨jaU _,kk0⟩) (dN (α:=(ByteArray × Int) × Int × Int) (fun _ z=>(fun x:(ByteArray × Int)=>.val true [.s x.1,.i .i64 x.2]) z.1) (fun a z=>curU 5 a z.2.1 z.2.2) (post:=fun a z=>bh (rowsOf a) z.2.1∧(fun (m:List SV) (x:(ByteArray × Int))=>x.1.size≤900200∧inK .i64 x.2) a.tail z.1) (env:=envL [(82,spD 5 (fun m=>∃ w:Int,(0≤w∧w≤10)∧m=[.val false [.i .i64 w]]) (fun x:List (List D)=>.val false [.sl false 33 x]) g82),(12,(spWr T [.s,.i .i64] cO SmO (fun a=>recT (ba a)))),(83,(kd 5)),(84,(yJ T [.s,.i .i64])),(85,spD 5 (fun m=>∃ l:List (List D),bL (l.length:Int)∧m=[argS 3 l]) (fun x:Int=>.val false [.i .i64 x]) g85)]) (N:=39) tabT (aa k82 (aa (ok12 _ (fun a h=>ja0 rg (Nat.add_le_add_right (jt h) 12)) okR43) (aa ok83 (aa ok84 (aa k85 ae))))) mixed Tryz.func40 rfl Tryz.call40 Tryz.ntmps40 ?_)
 rintro cs args ⟨rows,i,h0,more,ok,hp,he⟩ hwf
 obtain ⟨rfl,rfl⟩:cs=curC 5 rows i h0∧args=more:=by simpa only [jbj,SV.tup.injEq,jbn,true_and,and_true] using he
 obtain rfl:=hp
 refine ⟨by simp,?_⟩
 clear he hwf
 rw [Tryz.results40]
 repeat' first
  | (refine And.intro ?_ ?_)
  | (intro h;simp only [reduceCtorEq] at h;done)
  | (intro h;rw [h])
  | (intro h)
 all_goals first
  | (show ac _=true;kernel_rfl)|(show aj _ _=true;kernel_rfl)|exact True.intro|exact Or.inr rfl|exact Or.inl rfl
  | (show aL _ _;rfl)
  | (show List.length _=_;rfl)
  | refine ⟨_,_,_,_,?_,⟨by decide,by decide⟩,rfl⟩
  | refine ⟨_,_,_,?_,rfl⟩
  | refine ⟨_,_,_,_,?_,⟨_,⟨by decide,by decide⟩,rfl⟩,rfl⟩
  | refine ⟨_,_,_,_,?_,⟨_,(by exact (show bL ((3:Nat):Int) from ⟨by decide,by decide⟩)),rfl⟩,rfl⟩
  | skip
 all_goals try ((with_reducible show bh _ _);repeat (first|exact ok|exact ok1|exact ok2|refine am ?_|refine (q82 _ _ _ _ ?_ ⟨_,⟨by decide,by decide⟩,rfl⟩).1|refine (q85 _ _ _ _ ?_ ⟨_,(by exact (show bL ((3:Nat):Int) from ⟨by decide,by decide⟩)),rfl⟩).1))
 refine ar (Q:=_) [0,2,3,4,5] [39,2,3] (fun n st=>∃ (i:Nat) (s:ByteArray) (y:Int) (l:List (List D)) (I H:Int),st=([.ptr 39 0 0,.ptr 2 1 0,.ptr 3 1 0,argS 33 l,.val false [.i .i64 (i:Int)]],[(0,[.val false [.sl false 5 rows],.val false [.i .i64 I],.val false [.i .i64 H]]),(1,[.val false [.s ByteArray.empty],.val false [.i .i64 0]]),(1,[.val false [.s s],.val false [.i .i64 y]])])∧i≤l.length∧(∀ y ∈ l,OpD y)∧l.length≤10∧s.size≤90012 * i∧inK .i64 y∧bh rows I∧n=l.length - i) ?_ ?_
 · exact ⟨rfl,_,0,_,_,_,_,_,rfl,jaU _,(q82 _ _ _ _ (by repeat (first|exact ok|exact ok1|exact ok2|refine am ?_|refine (q82 _ _ _ _ ?_ ⟨_,⟨by decide,by decide⟩,rfl⟩).1|refine (q85 _ _ _ _ ?_ ⟨_,(by exact (show bL ((3:Nat):Int) from ⟨by decide,by decide⟩)),rfl⟩).1)) ⟨_,⟨by decide,by decide⟩,rfl⟩).2.1,(q82 _ _ _ _ (by repeat (first|exact ok|exact ok1|exact ok2|refine am ?_|refine (q82 _ _ _ _ ?_ ⟨_,⟨by decide,by decide⟩,rfl⟩).1|refine (q85 _ _ _ _ ?_ ⟨_,(by exact (show bL ((3:Nat):Int) from ⟨by decide,by decide⟩)),rfl⟩).1)) ⟨_,⟨by decide,by decide⟩,rfl⟩).2.2,ja9 _,kk0,(by repeat (first|exact ok|exact ok1|exact ok2|refine am ?_|refine (q82 _ _ _ _ ?_ ⟨_,⟨by decide,by decide⟩,rfl⟩).1|refine (q85 _ _ _ _ ?_ ⟨_,(by exact (show bL ((3:Nat):Int) from ⟨by decide,by decide⟩)),rfl⟩).1)),rfl⟩
 rintro n st ⟨i,s,y,l,I,H,rfl,hle,hA,hll,hs,hy,ok1,rfl⟩
 have hs9:s.size≤900120:=by omega
 repeat' first
  | (refine And.intro ?_ ?_)
  | (intro h;simp only [reduceCtorEq] at h;done)
  | (intro h;rw [h])
  | (intro h)
 all_goals first
  | (show ac _=true;kernel_rfl)|(show aj _ _=true;kernel_rfl)|exact True.intro|exact Or.inr rfl|exact Or.inl rfl
  | (show aL _ _;rfl)
  | (show List.length _=_;rfl)
  | with_reducible exact ja7 _
  | exact ⟨_,_,_,_,(by repeat (first|exact ok|exact ok1|exact ok2|refine am ?_|refine (q82 _ _ _ _ ?_ ⟨_,⟨by decide,by decide⟩,rfl⟩).1|refine (q85 _ _ _ _ ?_ ⟨_,(by exact (show bL ((3:Nat):Int) from ⟨by decide,by decide⟩)),rfl⟩).1)),⟨by decide,by decide⟩,rfl⟩
  | (have hi:i < l.length:=ltN' (by with_reducible assumption)
     have hop:OpD (l.getD i []):=OpD.at hA hi
     first
      | with_reducible exact jaT (by with_reducible assumption)
      | (show (Int.toNat (i:Int)) < _;rw [jbf];exact hi)
      | exact ⟨[.s s,.i y],l.getD i [],vO (ja0 hs9 (by decide)) hy,hop.wf,hop.sm,ja0 hs9 (by decide),rfl⟩
      | (refine ⟨[.s _,.i y],vO (ja0 ?_ (show 90012 * (i+1)≤900200 by omega)) hy,rfl⟩;exact (wr90 hs (oP hop)))
      | (refine ⟨l.length - (i+1),by omega,i+1,_,y,l,_,_,congrArg (fun z:Int=>(([.ptr 39 0 0,.ptr 2 1 0,.ptr 3 1 0,argS 33 l,.val false [.i .i64 z]],[(0,[.val false [.sl false 5 rows],.val false [.i .i64 _],.val false [.i .i64 _]]),(1,[.val false [.s ByteArray.empty],.val false [.i .i64 0]]),(1,[.val false [.s _],.val false [.i .i64 _]])]):Snap)) (bU hi (by omega)),by omega,hA,hll,(wr90 hs (oP hop)),hy,(by repeat (first|exact ok|exact ok1|exact ok2|refine am ?_|refine (q82 _ _ _ _ ?_ ⟨_,⟨by decide,by decide⟩,rfl⟩).1|refine (q85 _ _ _ _ ?_ ⟨_,(by exact (show bL ((3:Nat):Int) from ⟨by decide,by decide⟩)),rfl⟩).1)),rfl⟩)
      | (refine ⟨l.length - (i+1),by omega,i+1,_,_,l,_,_,congrArg (fun z:Int=>(([.ptr 39 0 0,.ptr 2 1 0,.ptr 3 1 0,argS 33 l,.val false [.i .i64 z]],[(0,[.val false [.sl false 5 rows],.val false [.i .i64 _],.val false [.i .i64 _]]),(1,[.val false [.s ByteArray.empty],.val false [.i .i64 0]]),(1,[.val false [.s _],.val false [.i .i64 _]])]):Snap)) (bU hi (by omega)),by omega,hA,hll,(wr90 hs (oP hop)),wK (ja0 (wr90 hs (oP hop)) (show 90012 * (i+1)≤1048576 by omega)),(by repeat (first|exact ok|exact ok1|exact ok2|refine am ?_|refine (q82 _ _ _ _ ?_ ⟨_,⟨by decide,by decide⟩,rfl⟩).1|refine (q85 _ _ _ _ ?_ ⟨_,(by exact (show bL ((3:Nat):Int) from ⟨by decide,by decide⟩)),rfl⟩).1)),rfl⟩))
  | exact ⟨_,_,_,_,(by repeat (first|exact ok|exact ok1|exact ok2|refine am ?_|refine (q82 _ _ _ _ ?_ ⟨_,⟨by decide,by decide⟩,rfl⟩).1|refine (q85 _ _ _ _ ?_ ⟨_,(by exact (show bL ((3:Nat):Int) from ⟨by decide,by decide⟩)),rfl⟩).1)),⟨_,(by exact (show bL ((3:Nat):Int) from ⟨by decide,by decide⟩)),rfl⟩,rfl⟩
  | (refine ⟨((_,_),_,_),⟨(by repeat (first|exact ok|exact ok1|exact ok2|refine am ?_|refine (q82 _ _ _ _ ?_ ⟨_,⟨by decide,by decide⟩,rfl⟩).1|refine (q85 _ _ _ _ ?_ ⟨_,(by exact (show bL ((3:Nat):Int) from ⟨by decide,by decide⟩)),rfl⟩).1)),?_⟩,rfl,rfl,True.intro⟩
     refine ⟨(show s.size≤900200 by omega),?_⟩
     first
      | exact hy
      | exact (q85 _ _ _ _ (by repeat (first|exact ok|exact ok1|exact ok2|refine am ?_|refine (q82 _ _ _ _ ?_ ⟨_,⟨by decide,by decide⟩,rfl⟩).1|refine (q85 _ _ _ _ ?_ ⟨_,(by exact (show bL ((3:Nat):Int) from ⟨by decide,by decide⟩)),rfl⟩).1)) ⟨_,(by exact (show bL ((3:Nat):Int) from ⟨by decide,by decide⟩)),rfl⟩).2 (inK .i64) kk0 (by intro r hr;simp only [az,ja2,jaZ,ja1,jaX,or_false] at hr;rcases hr with rfl|rfl|rfl <;> first|exact aK _ _|exact ⟨by decide,by decide⟩))
  | skip
theorem any18:AnyX Tryz.prog T 18 (fun a=>∃ rows:List (List D),rows.length≤1048576∧a=[argS 5 rows]) (fun x:((ByteArray × Int) × Int)=>.tup [(true,[.s x.1.1,.i .i64 x.1.2]),(false,[.i .i64 x.2])]) (fun x:((ByteArray × Int) × Int)=>(x.1.1.size≤900200∧inK .i64 x.1.2)∧inK .i64 x.2):=by
 obtain ⟨g40,k40,q40⟩:=any40
 obtain ⟨g46g,k46g,q46g⟩:=any46g
 refine AnyX.of (((⟨#[]⟩,0),0)) (⟨⟨jaU _,kk0⟩,kk0⟩) (fokA (fun _ (x:((ByteArray × Int) × Int))=>.tup [(true,[.s x.1.1,.i .i64 x.1.2]),(false,[.i .i64 x.2])]) (post:=fun _ (x:((ByteArray × Int) × Int))=>(x.1.1.size≤900200∧inK .i64 x.1.2)∧inK .i64 x.2) (env:=envL [(39,(qN 5)),(40,spD 5 (fun m=>m=[]) (fun x:(ByteArray × Int)=>.val true [.s x.1,.i .i64 x.2]) g40),(46,spD 5 (fun m=>∃ n:Int,(1≤n∧n≤1048577)∧m=[.val false [.i .i64 n]]) (fun x:Int=>.val false [.i .i64 x]) g46g)]) (N:=18) tabT (aa ok39 (aa k40 (aa k46g ae))) mixed Tryz.func18 rfl Tryz.call18 Tryz.ntmps18 ?_)
 rintro args ⟨rows,hr,rfl⟩ hwf
 refine ⟨by simp,?_⟩
 clear hwf
 rw [Tryz.results18]
 repeat' first
  | (refine And.intro ?_ ?_)
  | (intro h;simp only [reduceCtorEq] at h;done)
  | (intro h;rw [h])
  | (intro h)
 all_goals first
  | (show ac _=true;kernel_rfl)|(show aj _ _=true;kernel_rfl)|exact True.intro|exact Or.inr rfl|exact Or.inl rfl
  | exact ⟨_,hr,rfl⟩
  | (show List.length _=_;rfl)
  | refine ⟨_,_,_,_,?_,⟨by decide,by decide⟩,rfl⟩
  | refine ⟨_,_,_,_,?_,rfl,rfl⟩
  | refine ⟨_,_,_,_,?_,⟨_,bl3 (q40 _ _ _ _ (by repeat (first|exact ok|exact ok1|exact ok2|exact cur0 hr|refine am ?_|refine (q40 _ _ _ _ ?_ rfl).1)) rfl).2.1,rfl⟩,rfl⟩
  | (refine ⟨((_,_),_),⟨?_,?_⟩,rfl,True.intro⟩;exact (q40 _ _ _ _ (by repeat (first|exact ok|exact ok1|exact ok2|exact cur0 hr|refine am ?_|refine (q40 _ _ _ _ ?_ rfl).1|refine (q46g _ _ _ _ ?_ ⟨_,bl3 (q40 _ _ _ _ (by repeat (first|exact ok|exact ok1|exact ok2|exact cur0 hr|refine am ?_|refine (q40 _ _ _ _ ?_ rfl).1)) rfl).2.1,rfl⟩).1)) rfl).2;exact aK _ _)
  | (refine ⟨((_,_),_),⟨?_,?_⟩,rfl⟩;exact (q40 _ _ _ _ (by repeat (first|exact ok|exact ok1|exact ok2|exact cur0 hr|refine am ?_|refine (q40 _ _ _ _ ?_ rfl).1|refine (q46g _ _ _ _ ?_ ⟨_,bl3 (q40 _ _ _ _ (by repeat (first|exact ok|exact ok1|exact ok2|exact cur0 hr|refine am ?_|refine (q40 _ _ _ _ ?_ rfl).1)) rfl).2.1,rfl⟩).1)) rfl).2;exact aK _ _)
  | skip
 all_goals repeat (first|exact ok|exact ok1|exact ok2|exact cur0 hr|refine am ?_|refine (q40 _ _ _ _ ?_ rfl).1|refine (q46g _ _ _ _ ?_ ⟨_,bl3 (q40 _ _ _ _ (by repeat (first|exact ok|exact ok1|exact ok2|exact cur0 hr|refine am ?_|refine (q40 _ _ _ _ ?_ rfl).1)) rfl).2.1,rfl⟩).1)
end Go.Proofs.YtkpnfbdoaljkpaaGreatDoor.Ab
