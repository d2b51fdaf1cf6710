/- Drawn disks and stores: printed by a program of this -/
import Derived.Test.YtcllpknipmcolaaGreatDoorCJf
import Derived.Test.YtcllpknipmcolaaGreatDoorCJp
namespace Go.Proofs.YtcllpknipmcolaaGreatDoor.Ab
open Go.RowKit
set_option linter.all false
set_option maxRecDepth 100000
set_option maxHeartbeats 2000000
theorem any44:AnyD Tryz.prog T 44 5 (fun m=>m=[]) (fun x:ByteArray=>.val false [.s x]) (fun (m:List SV) (x:ByteArray)=>x.size≤900200):=by
 obtain ⟨g34,k34,q34⟩:=any34
 obtain ⟨g35g,k35g,q35g⟩:=any35g
 refine AnyD.of (fun _=>⟨#[]⟩) (fun _ _=>jcl _) (dJ (α:=ByteArray × Int × Int) (fun _ z=>(fun x:ByteArray=>.val false [.s x]) z.1) (fun a z=>curU 5 a z.2.1 z.2.2) (post:=fun a z=>bi (rowsOf a) z.2.1∧(fun (m:List SV) (x:ByteArray)=>x.size≤900200) a.tail z.1) (env:=envL [(34,spD 5 (fun m=>∃ w:Int,(0≤w∧w≤10)∧m=[.val false [.i .i64 w]]) (fun x:List (List D)=>.val false [.sl false 31 x]) g34),(7,(spTx T cO SmO (fun a=>recT (aL a)))),(45,(jJ 5)),(35,spD 5 (fun m=>∃ n:Int,(1≤n∧n≤1048577)∧m=[.val false [.i .i64 n]]) (fun x:Int=>.val false [.i .i64 x]) g35g),(66,(ed 5 9))]) (N:=59) tabT (aa k34 (aa okR7 (aa ok45 (aa k35g (aa ok66 ae))))) mixed Tryz.func44 rfl Tryz.call44 Tryz.ntmps44 ?_)
 rintro cs args ⟨rows,i,h0,more,ok,hp,he⟩ hwf
 obtain ⟨rfl,rfl⟩:cs=curC 5 rows i h0∧args=more:=by simpa only [jcK,SV.tup.injEq,jcO,true_and,and_true] using he
 obtain rfl:=hp
 refine ⟨by simp,?_⟩
 clear he hwf
 have qB:∀ (rows:List (List D)) (i h:Int) (t:ByteArray),bi rows i→1≤(t.size:Int)∧(t.size:Int)≤1048577→bi rows (g35g [curA 5 rows i h,.val false [.i .i64 (t.size:Int)]]).2.1∧0≤(g35g [curA 5 rows i h,.val false [.i .i64 (t.size:Int)]]).1∧(g35g [curA 5 rows i h,.val false [.i .i64 (t.size:Int)]]).1 < (t.size:Int):=fun rows i h t ok ht=>q35g rows i h [_] ok ⟨_,ht,rfl⟩
 rw [Tryz.results44]
 repeat' first
  | (refine And.intro ?_ ?_)
  | (intro h;simp only [reduceCtorEq] at h;done)
  | (intro h;rw [h])
  | (intro h)
 all_goals first
  | (show List.length _=_;rfl)
  | refine ⟨_,_,_,_,?_,⟨_,⟨by decide,by decide⟩,rfl⟩,rfl⟩
  | skip
 all_goals try ((with_reducible show bi _ _);repeat (first|exact ok|exact ok1|exact ok2|with_reducible refine (qB _ _ _ _ ?_ (blp (by with_reducible assumption) (by first|with_reducible exact hs9|with_reducible exact ex9 hs9))).1|refine aj ?_|refine (q34 _ _ _ _ ?_ ⟨_,⟨by decide,by decide⟩,rfl⟩).1|refine (q35g _ _ _ _ ?_ ⟨_,blp (by with_reducible assumption) (by first|with_reducible exact hs9|with_reducible exact ex9 hs9),rfl⟩).1))
 refine am (Q:=_) [0,3,4,5] [59] (fun n st=>∃ (i:Nat) (s:ByteArray) (l:List (List D)) (I H:Int),st=([.ptr 59 0 0,.val false [.s s],argS 31 l,.val false [.i .i64 (i:Int)]],[(0,[.val false [.sl false 5 rows],.val false [.i .i64 I],.val false [.i .i64 H]])])∧i≤l.length∧(∀ y ∈ l,OpD y)∧l.length≤10∧s.size≤90012 * i∧bi rows I∧n=l.length - i) ?_ ?_
 · exact ⟨rfl,_,0,_,_,_,_,rfl,jcl _,(q34 _ _ _ _ (by repeat (first|exact ok|exact ok1|exact ok2|with_reducible refine (qB _ _ _ _ ?_ (blp (by with_reducible assumption) (by first|with_reducible exact hs9|with_reducible exact ex9 hs9))).1|refine aj ?_|refine (q34 _ _ _ _ ?_ ⟨_,⟨by decide,by decide⟩,rfl⟩).1|refine (q35g _ _ _ _ ?_ ⟨_,blp (by with_reducible assumption) (by first|with_reducible exact hs9|with_reducible exact ex9 hs9),rfl⟩).1)) ⟨_,⟨by decide,by decide⟩,rfl⟩).2.1,(q34 _ _ _ _ (by repeat (first|exact ok|exact ok1|exact ok2|with_reducible refine (qB _ _ _ _ ?_ (blp (by with_reducible assumption) (by first|with_reducible exact hs9|with_reducible exact ex9 hs9))).1|refine aj ?_|refine (q34 _ _ _ _ ?_ ⟨_,⟨by decide,by decide⟩,rfl⟩).1|refine (q35g _ _ _ _ ?_ ⟨_,blp (by with_reducible assumption) (by first|with_reducible exact hs9|with_reducible exact ex9 hs9),rfl⟩).1)) ⟨_,⟨by decide,by decide⟩,rfl⟩).2.2,jcA _,(by repeat (first|exact ok|exact ok1|exact ok2|with_reducible refine (qB _ _ _ _ ?_ (blp (by with_reducible assumption) (by first|with_reducible exact hs9|with_reducible exact ex9 hs9))).1|refine aj ?_|refine (q34 _ _ _ _ ?_ ⟨_,⟨by decide,by decide⟩,rfl⟩).1|refine (q35g _ _ _ _ ?_ ⟨_,blp (by with_reducible assumption) (by first|with_reducible exact hs9|with_reducible exact ex9 hs9),rfl⟩).1)),rfl⟩
 rintro n st ⟨i,s,l,I,H,rfl,hle,hA,hll,hs,ok1,rfl⟩
 have hs9:s.size≤900120:=by omega
 repeat' first
  | (refine And.intro ?_ ?_)
  | (intro h;simp only [reduceCtorEq] at h;done)
  | (intro h;rw [h])
  | (intro h)
 all_goals first
  | (show av _=true;kernel_rfl)
  | (show aX _ _=true;kernel_rfl)
  | exact Or.inr rfl
  | (show aV _ _;rfl)
  | (show List.length _=_;rfl)
  | with_reducible exact jcy _
  | (have hi:i < l.length:=ltN' (by with_reducible assumption)
     have hop:OpD (l.getD i []):=OpD.at hA hi
     first
      | with_reducible exact jck (by with_reducible assumption)
      | exact ⟨l.getD i [],hop.wf,hop.sm,rfl⟩
      | (show s.size+_≤maxLen;refine jcr (Nat.add_le_add hs9 (wN hop)) (by decide))
      | (refine ⟨l.length - (i+1),by omega,i+1,_,l,_,_,congrArg (fun z:Int=>(([.ptr 59 0 0,.val false [.s _],argS 31 l,.val false [.i .i64 z]],[(0,[.val false [.sl false 5 rows],.val false [.i .i64 I],.val false [.i .i64 H]])]):Snap)) (d9 hi (by omega)),by omega,hA,hll,?_,ok1,rfl⟩
         rw [jcF]
         have:=wN hop
         refine jcr (Nat.add_le_add hs this) (by omega)))
  | exact ⟨_,_,_,_,(by repeat (first|exact ok|exact ok1|exact ok2|with_reducible refine (qB _ _ _ _ ?_ (blp (by with_reducible assumption) (by first|with_reducible exact hs9|with_reducible exact ex9 hs9))).1|refine aj ?_|refine (q34 _ _ _ _ ?_ ⟨_,⟨by decide,by decide⟩,rfl⟩).1|refine (q35g _ _ _ _ ?_ ⟨_,blp (by with_reducible assumption) (by first|with_reducible exact hs9|with_reducible exact ex9 hs9),rfl⟩).1)),⟨by decide,by decide⟩,rfl⟩
  | exact ⟨_,_,_,_,(by repeat (first|exact ok|exact ok1|exact ok2|with_reducible refine (qB _ _ _ _ ?_ (blp (by with_reducible assumption) (by first|with_reducible exact hs9|with_reducible exact ex9 hs9))).1|refine aj ?_|refine (q34 _ _ _ _ ?_ ⟨_,⟨by decide,by decide⟩,rfl⟩).1|refine (q35g _ _ _ _ ?_ ⟨_,blp (by with_reducible assumption) (by first|with_reducible exact hs9|with_reducible exact ex9 hs9),rfl⟩).1)),⟨_,blp (by with_reducible assumption) (by first|with_reducible exact hs9|with_reducible exact ex9 hs9),rfl⟩,rfl⟩
  | exact jc5 _
  | with_reducible exact (qB _ _ _ _ (by repeat (first|exact ok|exact ok1|exact ok2|with_reducible refine (qB _ _ _ _ ?_ (blp (by with_reducible assumption) (by first|with_reducible exact hs9|with_reducible exact ex9 hs9))).1|refine aj ?_|refine (q34 _ _ _ _ ?_ ⟨_,⟨by decide,by decide⟩,rfl⟩).1|refine (q35g _ _ _ _ ?_ ⟨_,blp (by with_reducible assumption) (by first|with_reducible exact hs9|with_reducible exact ex9 hs9),rfl⟩).1)) (blp (by with_reducible assumption) (by first|with_reducible exact hs9|with_reducible exact ex9 hs9))).2.1
  | with_reducible exact Int.le_of_lt (qB _ _ _ _ (by repeat (first|exact ok|exact ok1|exact ok2|with_reducible refine (qB _ _ _ _ ?_ (blp (by with_reducible assumption) (by first|with_reducible exact hs9|with_reducible exact ex9 hs9))).1|refine aj ?_|refine (q34 _ _ _ _ ?_ ⟨_,⟨by decide,by decide⟩,rfl⟩).1|refine (q35g _ _ _ _ ?_ ⟨_,blp (by with_reducible assumption) (by first|with_reducible exact hs9|with_reducible exact ex9 hs9),rfl⟩).1)) (blp (by with_reducible assumption) (by first|with_reducible exact hs9|with_reducible exact ex9 hs9))).2.2
  | with_reducible exact (blw (qB _ _ _ _ (by repeat (first|exact ok|exact ok1|exact ok2|with_reducible refine (qB _ _ _ _ ?_ (blp (by with_reducible assumption) (by first|with_reducible exact hs9|with_reducible exact ex9 hs9))).1|refine aj ?_|refine (q34 _ _ _ _ ?_ ⟨_,⟨by decide,by decide⟩,rfl⟩).1|refine (q35g _ _ _ _ ?_ ⟨_,blp (by with_reducible assumption) (by first|with_reducible exact hs9|with_reducible exact ex9 hs9),rfl⟩).1)) (blp (by with_reducible assumption) (by first|with_reducible exact hs9|with_reducible exact ex9 hs9))).2 (by first|with_reducible exact hs9|with_reducible exact ex9 hs9)).1
  | with_reducible exact (blw (qB _ _ _ _ (by repeat (first|exact ok|exact ok1|exact ok2|with_reducible refine (qB _ _ _ _ ?_ (blp (by with_reducible assumption) (by first|with_reducible exact hs9|with_reducible exact ex9 hs9))).1|refine aj ?_|refine (q34 _ _ _ _ ?_ ⟨_,⟨by decide,by decide⟩,rfl⟩).1|refine (q35g _ _ _ _ ?_ ⟨_,blp (by with_reducible assumption) (by first|with_reducible exact hs9|with_reducible exact ex9 hs9),rfl⟩).1)) (blp (by with_reducible assumption) (by first|with_reducible exact hs9|with_reducible exact ex9 hs9))).2 (by first|with_reducible exact hs9|with_reducible exact ex9 hs9)).2
  | with_reducible exact dz1 (by first|with_reducible exact hs9|with_reducible exact ex9 hs9) (af (P:=fun t=>t.size≤20) (jcl _) (by intro r hr;simp only [az,jct,jcq,jcs,jco,or_false] at hr;rcases hr with rfl|rfl|rfl|rfl <;> decide) _)
  | with_reducible exact dz2 (by first|with_reducible exact hs9|with_reducible exact ex9 hs9) (af (P:=fun t=>t.size≤20) (jcl _) (by intro r hr;simp only [az,jct,jcq,jcs,jco,or_false] at hr;rcases hr with rfl|rfl|rfl|rfl <;> decide) _)
  | (refine ⟨(_,_,_),⟨(by repeat (first|exact ok|exact ok1|exact ok2|with_reducible refine (qB _ _ _ _ ?_ (blp (by with_reducible assumption) (by first|with_reducible exact hs9|with_reducible exact ex9 hs9))).1|refine aj ?_|refine (q34 _ _ _ _ ?_ ⟨_,⟨by decide,by decide⟩,rfl⟩).1|refine (q35g _ _ _ _ ?_ ⟨_,blp (by with_reducible assumption) (by first|with_reducible exact hs9|with_reducible exact ex9 hs9),rfl⟩).1)),?_⟩,rfl,rfl,True.intro⟩
     first
      | with_reducible exact jcr hs9 (by decide)
      | with_reducible exact jcr (ex9 hs9) (by decide)
      | with_reducible exact dz3 (qB _ _ _ _ (by repeat (first|exact ok|exact ok1|exact ok2|with_reducible refine (qB _ _ _ _ ?_ (blp (by with_reducible assumption) (by first|with_reducible exact hs9|with_reducible exact ex9 hs9))).1|refine aj ?_|refine (q34 _ _ _ _ ?_ ⟨_,⟨by decide,by decide⟩,rfl⟩).1|refine (q35g _ _ _ _ ?_ ⟨_,blp (by with_reducible assumption) (by first|with_reducible exact hs9|with_reducible exact ex9 hs9),rfl⟩).1)) (blp (by with_reducible assumption) (by first|with_reducible exact hs9|with_reducible exact ex9 hs9))).2 (by first|with_reducible exact hs9|with_reducible exact ex9 hs9) (af (P:=fun t=>t.size≤20) (jcl _) (by intro r hr;simp only [az,jct,jcq,jcs,jco,or_false] at hr;rcases hr with rfl|rfl|rfl|rfl <;> decide) _))
theorem any5:AnyX Tryz.prog T 5 (fun a=>∃ rows:List (List D),rows.length≤1048576∧a=[argS 5 rows]) (fun x:OLs=>.val true [.i .i64 x.a0,.i .i64 x.a1,.i .i64 x.a2,.sl false 3 x.sn,.i .i64 x.e.k,.i .i64 x.e.at_,.i .i64 x.e.c.id,.i .i64 x.e.c.ve,.i .i64 x.e.c.k,.s x.e.c.nm,.s x.e.c.cd,.i .i64 x.e.c.n,.s x.fr,.s x.tt,.i .i64 x.ce,.i .i64 x.ve,.sl false 59 x.rd]) (fun x:OLs=>x.ok):=by
 obtain ⟨g15,k15,q15⟩:=any15
 refine AnyX.of (zOL) (rg) (fokA (fun _ (x:OLs)=>.val true [.i .i64 x.a0,.i .i64 x.a1,.i .i64 x.a2,.sl false 3 x.sn,.i .i64 x.e.k,.i .i64 x.e.at_,.i .i64 x.e.c.id,.i .i64 x.e.c.ve,.i .i64 x.e.c.k,.s x.e.c.nm,.s x.e.c.cd,.i .i64 x.e.c.n,.s x.fr,.s x.tt,.i .i64 x.ce,.i .i64 x.ve,.sl false 59 x.rd]) (post:=fun _ (x:OLs)=>x.ok) (env:=envL [(16,(mM 5)),(15,spD 5 (fun m=>m=[]) (fun x:OLs=>.val true [.i .i64 x.a0,.i .i64 x.a1,.i .i64 x.a2,.sl false 3 x.sn,.i .i64 x.e.k,.i .i64 x.e.at_,.i .i64 x.e.c.id,.i .i64 x.e.c.ve,.i .i64 x.e.c.k,.s x.e.c.nm,.s x.e.c.cd,.i .i64 x.e.c.n,.s x.fr,.s x.tt,.i .i64 x.ce,.i .i64 x.ve,.sl false 59 x.rd]) g15)]) (N:=6) tabT (aa ok16 (aa k15 ae)) mixed Tryz.func5 rfl Tryz.call5 Tryz.ntmps5 ?_)
 rintro args ⟨rows,hr,rfl⟩ hwf
 refine ⟨by simp,?_⟩
 clear hwf
 rw [Tryz.results5]
 repeat' first
  | (refine And.intro ?_ ?_)
  | (intro h;simp only [reduceCtorEq] at h;done)
  | (intro h;rw [h])
  | (intro h)
 all_goals first
  | exact Or.inr rfl
  | exact ⟨_,hr,rfl⟩
  | (show List.length _=_;rfl)
  | refine ⟨_,_,_,_,?_,rfl,rfl⟩
  | (refine ⟨⟨_,_,_,_,⟨_,_,⟨_,_,_,_,_,_⟩⟩,_,_,_,_,_⟩,?_,rfl,True.intro⟩;refine (q15 _ _ _ _ ?_ rfl).2)
 all_goals repeat (first|exact ok|exact ok1|exact ok2|exact cur0 hr|refine aj ?_|refine (q15 _ _ _ _ ?_ rfl).1)
theorem any11:AnyX Tryz.prog T 11 (fun a=>∃ rows:List (List D),rows.length≤1048576∧a=[argS 5 rows]) (fun x:ByteArray=>.val false [.s x]) (fun x:ByteArray=>x.size≤90020):=by
 obtain ⟨g34,k34,q34⟩:=any34
 obtain ⟨g33,k33,q33⟩:=any33
 obtain ⟨g32,k32,q32⟩:=any32
 refine AnyX.of (⟨#[]⟩) (jcl _) (fokA (fun _ (x:ByteArray)=>.val false [.s x]) (post:=fun _ (x:ByteArray)=>x.size≤90020) (env:=envL [(16,(mM 5)),(34,spD 5 (fun m=>∃ w:Int,(0≤w∧w≤10)∧m=[.val false [.i .i64 w]]) (fun x:List (List D)=>.val false [.sl false 31 x]) g34),(35,(bF 5)),(33,spD 5 (fun m=>∃ (l:List (List D)) (b:Int),(l.length≤1048576∧inK .i64 b)∧m=[argS 31 l,.val false [.i .i64 b]]) (fun x:OLs=>.val true [.i .i64 x.a0,.i .i64 x.a1,.i .i64 x.a2,.sl true 3 x.sn,.i .i64 x.e.k,.i .i64 x.e.at_,.i .i64 x.e.c.id,.i .i64 x.e.c.ve,.i .i64 x.e.c.k,.s x.e.c.nm,.s x.e.c.cd,.i .i64 x.e.c.n,.s x.fr,.s x.tt,.i .i64 x.ce,.i .i64 x.ve,.sl true 59 x.rd]) g33),(19,(rQ T cO)),(32,spD 5 (fun m=>∃ (s:ByteArray) (l:List (List D)),(s.size≤500000∧eh (l.length:Int)∧∀ k,(((l.getD k []).getD 0 default).str).size≤20)∧m=[.val false [.s s],argS 9 l]) (fun x:ByteArray=>.val false [.s x]) g32)]) (N:=16) tabT (aa ok16 (aa k34 (aa ok35 (aa k33 (aa ok19 (aa k32 ae)))))) mixed Tryz.func11 rfl Tryz.call11 Tryz.ntmps11 ?_)
 rintro args ⟨rows,hr,rfl⟩ hwf
 refine ⟨by simp,?_⟩
 clear hwf
 rw [Tryz.results11]
 repeat' first
  | (refine And.intro ?_ ?_)
  | (intro h;simp only [reduceCtorEq] at h;done)
  | (intro h;rw [h])
  | (intro h)
 all_goals first
  | exact Or.inr rfl
  | exact ⟨_,hr,rfl⟩
  | (show List.length _=_;rfl)
  | refine ⟨_,_,_,_,?_,⟨by decide,by decide⟩,rfl⟩
  | refine ⟨_,_,_,_,?_,⟨_,⟨by decide,by decide⟩,rfl⟩,rfl⟩
  | refine ⟨_,_,_,_,?_,⟨_,_,⟨jcr (q34 _ _ _ _ ?_ ⟨_,⟨by decide,by decide⟩,rfl⟩).2.2 (by decide),ar (ao ⟨by decide,by decide⟩)⟩,rfl⟩,rfl⟩
  | refine ⟨_,_,_,_,?_,⟨_,_,⟨jcr (pi ⟨_,rfl,(q33 _ _ _ _ ?_ ⟨_,_,⟨jcr (q34 _ _ _ _ ?_ ⟨_,⟨by decide,by decide⟩,rfl⟩).2.2 (by decide),ar (ao ⟨by decide,by decide⟩)⟩,rfl⟩).2.1⟩) (by decide),⟨by decide,by decide⟩,fun k=>af (P:=fun t=>t.size≤20) (jcl _) (by intro r hr;simp only [az,jct,jcq,jcs,jco,or_false] at hr;rcases hr with rfl|rfl|rfl|rfl|rfl <;> decide) _⟩,rfl⟩,rfl⟩
  | refine ⟨_,OpD.wf ⟨_,rfl,(q33 _ _ _ _ ?_ ⟨_,_,⟨jcr (q34 _ _ _ _ ?_ ⟨_,⟨by decide,by decide⟩,rfl⟩).2.2 (by decide),ar (ao ⟨by decide,by decide⟩)⟩,rfl⟩).2.1⟩,OpD.sm ⟨_,rfl,(q33 _ _ _ _ ?_ ⟨_,_,⟨jcr (q34 _ _ _ _ ?_ ⟨_,⟨by decide,by decide⟩,rfl⟩).2.2 (by decide),ar (ao ⟨by decide,by decide⟩)⟩,rfl⟩).2.1⟩,rfl⟩
  | (refine ⟨_,?_,rfl,True.intro⟩;refine jcr (q32 _ _ _ _ ?_ ⟨_,_,⟨jcr (pi ⟨_,rfl,(q33 _ _ _ _ ?_ ⟨_,_,⟨jcr (q34 _ _ _ _ ?_ ⟨_,⟨by decide,by decide⟩,rfl⟩).2.2 (by decide),ar (ao ⟨by decide,by decide⟩)⟩,rfl⟩).2.1⟩) (by decide),⟨by decide,by decide⟩,fun k=>af (P:=fun t=>t.size≤20) (jcl _) (by intro r hr;simp only [az,jct,jcq,jcs,jco,or_false] at hr;rcases hr with rfl|rfl|rfl|rfl|rfl <;> decide) _⟩,rfl⟩).2 (Nat.add_le_add_right (pi ⟨_,rfl,(q33 _ _ _ _ ?_ ⟨_,_,⟨jcr (q34 _ _ _ _ ?_ ⟨_,⟨by decide,by decide⟩,rfl⟩).2.2 (by decide),ar (ao ⟨by decide,by decide⟩)⟩,rfl⟩).2.1⟩) 20))
 all_goals repeat (first|exact ok|exact ok1|exact ok2|exact cur0 hr|refine aj ?_|refine (q34 _ _ _ _ ?_ ⟨_,⟨by decide,by decide⟩,rfl⟩).1|refine (q33 _ _ _ _ ?_ ⟨_,_,⟨jcr (q34 _ _ _ _ (by repeat (first|exact ok|exact ok1|exact ok2|exact cur0 hr|refine aj ?_|refine (q34 _ _ _ _ ?_ ⟨_,⟨by decide,by decide⟩,rfl⟩).1|refine (q33 _ _ _ _ ?_ ⟨_,_,⟨jcr (q34 _ _ _ _ (by repeat (first|exact ok|exact ok1|exact ok2|exact cur0 hr|refine aj ?_|refine (q34 _ _ _ _ ?_ ⟨_,⟨by decide,by decide⟩,rfl⟩).1)) ⟨_,⟨by decide,by decide⟩,rfl⟩).2.2 (by decide),ar (ao ⟨by decide,by decide⟩)⟩,rfl⟩).1)) ⟨_,⟨by decide,by decide⟩,rfl⟩).2.2 (by decide),ar (ao ⟨by decide,by decide⟩)⟩,rfl⟩).1|refine (q32 _ _ _ _ ?_ ⟨_,_,⟨jcr (pi ⟨_,rfl,(q33 _ _ _ _ (by repeat (first|exact ok|exact ok1|exact ok2|exact cur0 hr|refine aj ?_|refine (q34 _ _ _ _ ?_ ⟨_,⟨by decide,by decide⟩,rfl⟩).1|refine (q33 _ _ _ _ ?_ ⟨_,_,⟨jcr (q34 _ _ _ _ (by repeat (first|exact ok|exact ok1|exact ok2|exact cur0 hr|refine aj ?_|refine (q34 _ _ _ _ ?_ ⟨_,⟨by decide,by decide⟩,rfl⟩).1)) ⟨_,⟨by decide,by decide⟩,rfl⟩).2.2 (by decide),ar (ao ⟨by decide,by decide⟩)⟩,rfl⟩).1)) ⟨_,_,⟨jcr (q34 _ _ _ _ (by repeat (first|exact ok|exact ok1|exact ok2|exact cur0 hr|refine aj ?_|refine (q34 _ _ _ _ ?_ ⟨_,⟨by decide,by decide⟩,rfl⟩).1|refine (q33 _ _ _ _ ?_ ⟨_,_,⟨jcr (q34 _ _ _ _ (by repeat (first|exact ok|exact ok1|exact ok2|exact cur0 hr|refine aj ?_|refine (q34 _ _ _ _ ?_ ⟨_,⟨by decide,by decide⟩,rfl⟩).1)) ⟨_,⟨by decide,by decide⟩,rfl⟩).2.2 (by decide),ar (ao ⟨by decide,by decide⟩)⟩,rfl⟩).1)) ⟨_,⟨by decide,by decide⟩,rfl⟩).2.2 (by decide),ar (ao ⟨by decide,by decide⟩)⟩,rfl⟩).2.1⟩) (by decide),⟨by decide,by decide⟩,fun k=>af (P:=fun t=>t.size≤20) (jcl _) (by intro r hr;simp only [az,jct,jcq,jcs,jco,or_false] at hr;rcases hr with rfl|rfl|rfl|rfl|rfl <;> decide) _⟩,rfl⟩).1)
theorem any14:AnyX Tryz.prog T 14 (fun a=>∃ rows:List (List D),rows.length≤1048576∧a=[argS 5 rows]) (fun x:(ByteArray × Int)=>.tup [(false,[.s x.1]),(false,[.i .i64 x.2])]) (fun x:(ByteArray × Int)=>x.1.size≤900200∧inK .i64 x.2):=by
 obtain ⟨g44,k44,q44⟩:=any44
 obtain ⟨g35g,k35g,q35g⟩:=any35g
 refine AnyX.of ((⟨#[]⟩,0)) (⟨jcl _,kk0⟩) (fokA (fun _ (x:(ByteArray × Int))=>.tup [(false,[.s x.1]),(false,[.i .i64 x.2])]) (post:=fun _ (x:(ByteArray × Int))=>x.1.size≤900200∧inK .i64 x.2) (env:=envL [(16,(mM 5)),(44,spD 5 (fun m=>m=[]) (fun x:ByteArray=>.val false [.s x]) g44),(45,(jJ 5)),(35,spD 5 (fun m=>∃ n:Int,(1≤n∧n≤1048577)∧m=[.val false [.i .i64 n]]) (fun x:Int=>.val false [.i .i64 x]) g35g)]) (N:=20) tabT (aa ok16 (aa k44 (aa ok45 (aa k35g ae)))) mixed Tryz.func14 rfl Tryz.call14 Tryz.ntmps14 ?_)
 rintro args ⟨rows,hr,rfl⟩ hwf
 refine ⟨by simp,?_⟩
 clear hwf
 rw [Tryz.results14]
 repeat' first
  | (refine And.intro ?_ ?_)
  | (intro h;simp only [reduceCtorEq] at h;done)
  | (intro h;rw [h])
  | (intro h)
 all_goals first
  | exact Or.inr rfl
  | exact ⟨_,hr,rfl⟩
  | (show List.length _=_;rfl)
  | refine ⟨_,_,_,_,?_,⟨by decide,by decide⟩,rfl⟩
  | refine ⟨_,_,_,_,?_,rfl,rfl⟩
  | refine ⟨_,_,_,_,?_,⟨_,bl2 (q44 _ _ _ _ (by repeat (first|exact ok|exact ok1|exact ok2|exact cur0 hr|refine aj ?_|refine (q44 _ _ _ _ ?_ rfl).1)) rfl).2,rfl⟩,rfl⟩
  | (refine ⟨(_,_),⟨(q44 _ _ _ _ (by repeat (first|exact ok|exact ok1|exact ok2|exact cur0 hr|refine aj ?_|refine (q44 _ _ _ _ ?_ rfl).1|refine (q35g _ _ _ _ ?_ ⟨_,bl2 (q44 _ _ _ _ (by repeat (first|exact ok|exact ok1|exact ok2|exact cur0 hr|refine aj ?_|refine (q44 _ _ _ _ ?_ rfl).1)) rfl).2,rfl⟩).1)) rfl).2,?_⟩,rfl,True.intro⟩;first|exact kk0|exact aW _ _)
 all_goals repeat (first|exact ok|exact ok1|exact ok2|exact cur0 hr|refine aj ?_|refine (q44 _ _ _ _ ?_ rfl).1|refine (q35g _ _ _ _ ?_ ⟨_,bl2 (q44 _ _ _ _ (by repeat (first|exact ok|exact ok1|exact ok2|exact cur0 hr|refine aj ?_|refine (q44 _ _ _ _ ?_ rfl).1)) rfl).2,rfl⟩).1)
end Go.Proofs.YtcllpknipmcolaaGreatDoor.Ab
