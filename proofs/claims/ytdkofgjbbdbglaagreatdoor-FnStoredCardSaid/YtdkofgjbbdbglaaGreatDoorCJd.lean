/- A part. -/
import Derived.Test.YtdkofgjbbdbglaaGreatDoorCJx
namespace Go.Proofs.YtdkofgjbbdbglaaGreatDoor.Ab
open Go.RowKit
set_option linter.all false
set_option maxRecDepth 100000
set_option maxHeartbeats 2000000
def kX:FSpec where
 pre args:=∃ n:Int,args=[.val false [.i .i64 n]]
 res args:=match args with
  | [.val _ [.i _ n]]=>.val true [.i .i64 1,.i .i64 n,.s ⟨#[]⟩,.sl true 144 []]
  | _=>.none
theorem okE154:FOk Tryz.prog T 154 kX:=by
 refine fok (env:=envL []) (N:=5) tabT ae mixed Tryz.func154 rfl Tryz.call154 Tryz.ntmps154 ?_
 rintro args ⟨n,rfl⟩ hwf
 refine ⟨by simp,?_⟩
 clear hwf
 rw [Tryz.results154]
 repeat' first
  | refine And.intro ?_ ?_
  | (intro h;simp only [reduceCtorEq] at h;done)
  | (intro h;rw [h])
  | intro h
 all_goals first
  | exact True.intro
  | exact Or.inr rfl
  | exact rfl
def xj:FSpec where
 pre args:=∃ n:ByteArray,args=[.val false [.s n]]
 res args:=match args with
  | [.val _ [.s n]]=>.val true [.i .i64 3,.i .i64 0,.s n,.sl true 144 []]
  | _=>.none
theorem okE192:FOk Tryz.prog T 192 xj:=by
 refine fok (env:=envL []) (N:=5) tabT ae mixed Tryz.func192 rfl Tryz.call192 Tryz.ntmps192 ?_
 rintro args ⟨n,rfl⟩ hwf
 refine ⟨by simp,?_⟩
 clear hwf
 rw [Tryz.results192]
 repeat' first
  | refine And.intro ?_ ?_
  | (intro h;simp only [reduceCtorEq] at h;done)
  | (intro h;rw [h])
  | intro h
 all_goals first
  | exact True.intro
  | exact Or.inr rfl
  | exact rfl
def sf:FSpec where
 pre args:=∃ (n:Int) (a b:List D),args=[.val false [.i .i64 n],argG [.i .i64,.i .i64,.s,.l 144] a,argG [.i .i64,.i .i64,.s,.l 144] b]
 res args:=match args with
  | [.val _ [.i _ n],.val _ ca,.val _ cb]=>.val true [.i .i64 6,.i .i64 n,.s ⟨#[]⟩,.sl true 144 ([]++[csD ca]++[csD cb])]
  | _=>.none
theorem okE150:FOk Tryz.prog T 150 sf:=by
 refine fok (env:=envL []) (N:=12) tabT ae mixed Tryz.func150 rfl Tryz.call150 Tryz.ntmps150 ?_
 rintro args ⟨n,a,b,rfl⟩ hwf
 refine ⟨by simp,?_⟩
 clear hwf
 rw [Tryz.results150]
 repeat' first
  | refine And.intro ?_ ?_
  | (intro h;simp only [reduceCtorEq] at h;done)
  | (intro h;rw [h])
  | intro h
 all_goals first
  | exact True.intro
  | exact Or.inr rfl
  | exact rfl
def mU:FSpec where
 pre args:=∃ (s:ByteArray) (l:List (List D)),args=[.val false [.s s],argS 144 l]
 res args:=match args with
  | [.val _ [.s s],.val _ [.sl _ _ l]]=>.val true [.i .i64 5,.i .i64 0,.s s,.sl false 144 l]
  | _=>.none
theorem okE152:FOk Tryz.prog T 152 mU:=by
 refine fok (env:=envL []) (N:=8) tabT ae mixed Tryz.func152 rfl Tryz.call152 Tryz.ntmps152 ?_
 rintro args ⟨n,l,rfl⟩ hwf
 refine ⟨by simp,?_⟩
 clear hwf
 rw [Tryz.results152]
 repeat' first
  | refine And.intro ?_ ?_
  | (intro h;simp only [reduceCtorEq] at h;done)
  | (intro h;rw [h])
  | intro h
 all_goals first
  | exact True.intro
  | exact Or.inr rfl
  | exact rfl
theorem okN152:FOk Tryz.prog T 152 (nil2 mU 144):=FOk.nil2 rfl (by rintro a x ⟨s,l,rfl⟩ h;simp at h) okE152
def qF (a:List SV):List (List D):=match a with
 | [.val _ c,.val _ c']=>[csD c,csD c']
 | _=>[]
theorem all2 {p:List D→Prop} {a b:List D} (ha:p a) (hb:p b):∀ y ∈ [a,b],p y:=fun y hy=>by
 rcases jde.1 hy with rfl|hy
 · exact ha
 · exact all1 hb y hy
theorem any153:AnyD Tryz.prog T 153 5 (fun m=>∃ a b:EL,m=[argG [.i .i64,.i .i64,.s,.l 144] a.row,argG [.i .i64,.i .i64,.s,.l 144] b.row]) (fun x:EL=>.val true [.i .i64 x.k,.i .i64 x.n,.s x.t,.sl false 144 x.l]) (fun (m:List SV) (x:EL)=>∀ P:List D→Prop,(∀ r ∈ qF m,P r)→P x.row):=by
 refine AnyD.of (fun m=>⟨((qF m).getD 0 [] |>.getD 0 default).int,((qF m).getD 0 [] |>.getD 1 default).int,((qF m).getD 0 [] |>.getD 2 default).str,((qF m).getD 0 [] |>.getD 3 default).rows⟩) ((by rintro m ⟨x,y,rfl⟩ P h;exact h _ (jdB ..))) (dM (α:=EL × Int × Int) (fun _ z=>(fun x:EL=>.val true [.i .i64 x.k,.i .i64 x.n,.s x.t,.sl false 144 x.l]) z.1) (fun a z=>curU 5 a z.2.1 z.2.2) (post:=fun a z=>bo (rowsOf a) z.2.1∧(fun (m:List SV) (x:EL)=>∀ P:List D→Prop,(∀ r ∈ qF m,P r)→P x.row) a.tail z.1) (env:=envL [(25,(kW 5))]) (N:=11) tabT (aa ok25 ae) mixed Tryz.func153 rfl Tryz.call153 Tryz.ntmps153 ?_)
 rintro cs args ⟨rows,i,h0,more,ok,hp,he⟩ hwf
 obtain ⟨rfl,rfl⟩:cs=curC 5 rows i h0∧args=more:=by simpa only [jdw,SV.tup.injEq,jdA,true_and,and_true] using he
 obtain ⟨a,b,rfl⟩:=hp
 refine ⟨by simp,?_⟩
 clear he hwf
 rw [Tryz.results153]
 repeat' first
  | refine And.intro ?_ ?_
  | (intro h;simp only [reduceCtorEq] at h;done)
  | (intro h;rw [h])
  | intro h
 all_goals first
  | exact Or.inr rfl
  | (show List.length _=_;rfl)
  | refine ⟨_,_,_,_,?_,⟨by decide,by decide⟩,rfl⟩
  | (refine ⟨(⟨_,_,_,_⟩,_,_),⟨?_,?_⟩,rfl,rfl,True.intro⟩;rotate_left;focus (exact fun P h=>h _ (jdB ..)))
  | (refine ⟨(⟨_,_,_,_⟩,_,_),⟨?_,?_⟩,rfl,rfl,True.intro⟩;rotate_left;focus (exact fun P h=>h _ (jdP _ (jdB ..))))
 all_goals repeat (first|exact ok|exact ok1|exact ok2|refine am ?_)
theorem any155:AnyD Tryz.prog T 155 5 (fun m=>m=[]) (fun x:EL=>.val true [.i .i64 x.k,.i .i64 x.n,.s x.t,.sl false 144 x.l]) (fun (m:List SV) (x:EL)=>ExOk 1 x.row):=by
 refine AnyD.of (fun _=>⟨1,0,⟨#[]⟩,[]⟩) (fun _ _=>ExOk.mk (d:=0) kk1 kk0 (jc7 _) (jc7 _) rfl all0) (dM (α:=EL × Int × Int) (fun _ z=>(fun x:EL=>.val true [.i .i64 x.k,.i .i64 x.n,.s x.t,.sl false 144 x.l]) z.1) (fun a z=>curU 5 a z.2.1 z.2.2) (post:=fun a z=>bo (rowsOf a) z.2.1∧(fun (m:List SV) (x:EL)=>ExOk 1 x.row) a.tail z.1) (env:=envL [(48,(eI 5 9))]) (N:=7) tabT (aa ok48 ae) mixed Tryz.func155 rfl Tryz.call155 Tryz.ntmps155 ?_)
 rintro cs args ⟨rows,i,h0,more,ok,hp,he⟩ hwf
 obtain ⟨rfl,rfl⟩:cs=curC 5 rows i h0∧args=more:=by simpa only [jdw,SV.tup.injEq,jdA,true_and,and_true] using he
 obtain rfl:=hp
 refine ⟨by simp,?_⟩
 clear he hwf
 rw [Tryz.results155]
 repeat' first
  | refine And.intro ?_ ?_
  | (intro h;simp only [reduceCtorEq] at h;done)
  | (intro h;rw [h])
  | intro h
 all_goals first
  | exact Or.inr rfl
  | (show List.length _=_;rfl)
  | refine ⟨_,_,_,_,?_,⟨by decide,by decide⟩,rfl⟩
  | (refine ⟨(⟨_,_,_,_⟩,_,_),⟨?_,?_⟩,rfl,rfl,True.intro⟩;rotate_left;focus (exact ExOk.mk (d:=0) kk2 kk0 (af (P:=fun t=>t.size≤8) (jc7 _) (by intro r hr;simp only [az,jdf,jdc,jde,jda,or_false] at hr;rcases hr with rfl|rfl|rfl|rfl|rfl <;> decide) _) (jc7 _) rfl all0))
 all_goals repeat (first|exact ok|exact ok1|exact ok2|refine am ?_)
theorem any149:AnyD Tryz.prog T 149 5 (fun m=>∃ l:List (List D),(TR 8 l∧1≤l.length∧l.length≤32)∧m=[argS 9 l]) (fun x:EL=>.val true [.i .i64 x.k,.i .i64 x.n,.s x.t,.sl false 144 x.l]) (fun (m:List SV) (x:EL)=>ExOk 1 x.row):=by
 refine AnyD.of (fun _=>⟨1,0,⟨#[]⟩,[]⟩) (fun _ _=>ExOk.mk (d:=0) kk1 kk0 (jc7 _) (jc7 _) rfl all0) (dM (α:=EL × Int × Int) (fun _ z=>(fun x:EL=>.val true [.i .i64 x.k,.i .i64 x.n,.s x.t,.sl false 144 x.l]) z.1) (fun a z=>curU 5 a z.2.1 z.2.2) (post:=fun a z=>bo (rowsOf a) z.2.1∧(fun (m:List SV) (x:EL)=>ExOk 1 x.row) a.tail z.1) (env:=envL [(29,(bM 5)),(48,(eI 5 9)),(154,kX),(192,xj)]) (N:=23) tabT (aa ok29 (aa ok48 (aa okE154 (aa okE192 ae)))) mixed Tryz.func149 rfl Tryz.call149 Tryz.ntmps149 ?_)
 rintro cs args ⟨rows,i,h0,more,ok,hp,he⟩ hwf
 obtain ⟨rfl,rfl⟩:cs=curC 5 rows i h0∧args=more:=by simpa only [jdw,SV.tup.injEq,jdA,true_and,and_true] using he
 obtain ⟨l,⟨hT,hl1,hl2⟩,rfl⟩:=hp
 refine ⟨by simp,?_⟩
 clear he hwf
 rw [Tryz.results149]
 repeat' first
  | refine And.intro ?_ ?_
  | (intro h;simp only [reduceCtorEq] at h;done)
  | (intro h;rw [h])
  | intro h
 all_goals first
  | exact Or.inr rfl
  | (show List.length _=_;rfl)
  | refine ⟨_,_,_,_,?_,⟨by decide,by decide⟩,rfl⟩
  | exact ⟨_,rfl⟩
  | refine ⟨_,_,_,_,?_,⟨by omega,by omega⟩,rfl⟩
  | (refine ⟨(⟨_,_,_,_⟩,_,_),⟨?_,?_⟩,rfl,rfl,True.intro⟩;rotate_left;focus (exact ExOk.mk (d:=0) kk2 kk0 (af (P:=fun t=>t.size≤8) (jc7 _) (by intro r hr;simp only [az,jdf,jdc,jde,jda,or_false] at hr;rcases hr with rfl|rfl|rfl|rfl <;> decide) _) (jc7 _) rfl all0))
  | (refine ⟨(⟨_,_,_,_⟩,_,_),⟨?_,?_⟩,rfl,rfl,True.intro⟩;rotate_left;focus (exact ExOk.mk (d:=0) kk1 (au (aq ⟨by decide,by decide⟩)) (jc7 _) (jc7 _) rfl all0))
  | (refine ⟨(⟨_,_,_,_⟩,_,_),⟨?_,?_⟩,rfl,rfl,True.intro⟩;rotate_left;focus (exact ExOk.mk (d:=0) kk3 kk0 (hT.pick _) (jc7 _) rfl all0))
 all_goals repeat (first|exact ok|exact ok1|exact ok2|refine am ?_)
theorem any151:AnyD Tryz.prog T 151 5 (fun m=>∃ l:List (List D),(TR 8 l∧1≤l.length∧l.length≤32)∧m=[argS 9 l]) (fun x:EL=>.val true [.i .i64 x.k,.i .i64 x.n,.s x.t,.sl false 144 x.l]) (fun (m:List SV) (x:EL)=>ExOk 2 x.row):=by
 obtain ⟨g149,k149,q149⟩:=any149
 refine AnyD.of (fun _=>⟨1,0,⟨#[]⟩,[]⟩) (fun _ _=>ExOk.mk (d:=1) kk1 kk0 (jc7 _) (jc7 _) rfl all0) (dM (α:=EL × Int × Int) (fun _ z=>(fun x:EL=>.val true [.i .i64 x.k,.i .i64 x.n,.s x.t,.sl false 144 x.l]) z.1) (fun a z=>curU 5 a z.2.1 z.2.2) (post:=fun a z=>bo (rowsOf a) z.2.1∧(fun (m:List SV) (x:EL)=>ExOk 2 x.row) a.tail z.1) (env:=envL [(29,(bM 5)),(154,kX),(25,(kW 5)),(149,spD 5 (fun m=>∃ l:List (List D),(TR 8 l∧1≤l.length∧l.length≤32)∧m=[argS 9 l]) (fun x:EL=>.val true [.i .i64 x.k,.i .i64 x.n,.s x.t,.sl false 144 x.l]) g149)]) (N:=34) tabT (aa ok29 (aa okE154 (aa ok25 (aa k149 ae)))) mixed Tryz.func151 rfl Tryz.call151 Tryz.ntmps151 ?_)
 rintro cs args ⟨rows,i,h0,more,ok,hp,he⟩ hwf
 obtain ⟨rfl,rfl⟩:cs=curC 5 rows i h0∧args=more:=by simpa only [jdw,SV.tup.injEq,jdA,true_and,and_true] using he
 obtain ⟨l,⟨hT,hl1,hl2⟩,rfl⟩:=hp
 refine ⟨by simp,?_⟩
 clear he hwf
 rw [Tryz.results151]
 repeat' first
  | refine And.intro ?_ ?_
  | (intro h;simp only [reduceCtorEq] at h;done)
  | (intro h;rw [h])
  | intro h
 all_goals first
  | (show List.length _=_;rfl)
  | refine ⟨_,_,_,_,?_,⟨by decide,by decide⟩,rfl⟩
  | skip
 all_goals try ((with_reducible show bo _ _);repeat (first|exact ok|exact ok1|exact ok2|refine am ?_|refine (q149 _ _ _ _ ?_ ⟨_,⟨hT,hl1,hl2⟩,rfl⟩).1))
 refine aj (Q:=_) [0,1,4,5,6,7] [34,4,5] (fun n s=>∃ (z m:Int) (o:List (List D)) (I H:Int),s=([.ptr 34 0 0,argS 9 l,.ptr 4 1 0,.ptr 5 1 0,.val false [.i .i64 m],.val false [.i .i64 z]],[(0,[.val false [.sl false 5 rows],.val false [.i .i64 I],.val false [.i .i64 H]]),(1,[.val false [.i .i64 0],.val false [.i .i64 0],.val false [.s ByteArray.empty],.val false [.sl true 144 []]]),(1,[.val false [.i .i64 4],.val false [.i .i64 0],.val false [.s ByteArray.empty],.val false [.sl true 144 (o)]])])∧0≤m∧m≤3∧bo rows I∧(∀ y ∈ o,ExOk 1 y)∧o.length=z.toNat∧0≤z∧z≤m∧n=m.toNat - z.toNat) ?_ ?_
 · exact ⟨rfl,_,0,_,_,_,_,rfl,(aP (rows:=rows) (i:=i) (h:=h0) (n:=4) ⟨by decide,by decide⟩).1,jeA (aP (rows:=rows) (i:=i) (h:=h0) (n:=4) ⟨by decide,by decide⟩).2,am ok,all0,rfl,by decide,(aP (rows:=rows) (i:=i) (h:=h0) (n:=4) ⟨by decide,by decide⟩).1,rfl⟩
 rintro n s ⟨z,m,o,I,H,rfl,hm0,hm1,ok1,hA,hol,h1,h2,h3⟩
 repeat' first
  | refine And.intro ?_ ?_
  | (intro h;simp only [reduceCtorEq] at h;done)
  | (intro h;rw [h])
  | intro h
 all_goals first
  | (show av _=true;kernel_rfl)
  | (show ba _ _=true;kernel_rfl)
  | exact Or.inr rfl
  | (show aX _ _;rfl)
  | (show List.length _=_;rfl)
  | exact ⟨_,_,_,_,(by repeat (first|exact ok|exact ok1|exact ok2|refine am ?_|refine (q149 _ _ _ _ ?_ ⟨_,⟨hT,hl1,hl2⟩,rfl⟩).1)),⟨by decide,by decide⟩,rfl⟩
  | exact ⟨_,rfl⟩
  | exact ⟨_,_,_,_,(by repeat (first|exact ok|exact ok1|exact ok2|refine am ?_|refine (q149 _ _ _ _ ?_ ⟨_,⟨hT,hl1,hl2⟩,rfl⟩).1)),⟨_,⟨hT,hl1,hl2⟩,rfl⟩,rfl⟩
  | (show o.length+1≤maxLen;simp only [maxLen];omega)
  | (show (o.length+1) * 56≤140737488355328;omega)
  | (have hz:z < m:=jc6 ‹decide (z < m)=true›
     first
      | exact h1
      | (show z < (((o++_).length:Nat):Int);rw [jc8];show z < ((o.length+1:Nat):Int);omega)
      | (show z.toNat < (o++_).length;rw [jc8];show z.toNat < o.length+1;omega)
      | (refine ⟨m.toNat - (z+1).toNat,by omega,z+1,m,_,_,_,congrArg (fun q=>(([.ptr 34 0 0,argS 9 l,.ptr 4 1 0,.ptr 5 1 0,.val false [.i .i64 _],.val false [.i .i64 q]],[(0,[.val false [.sl false 5 rows],.val false [.i .i64 _],.val false [.i .i64 _]]),(1,[.val false [.i .i64 0],.val false [.i .i64 0],.val false [.s ByteArray.empty],.val false [.sl true 144 []]]),(1,[.val false [.i .i64 4],.val false [.i .i64 0],.val false [.s ByteArray.empty],.val false [.sl true 144 (_)]])]):Snap)) (aF (by omega) (by omega)),hm0,hm1,(by repeat (first|exact ok|exact ok1|exact ok2|refine am ?_|refine (q149 _ _ _ _ ?_ ⟨_,⟨hT,hl1,hl2⟩,rfl⟩).1)),?_,?_,by omega,by omega,rfl⟩
         · first|exact aR hA (ExOk.mk (d:=0) kk1 (au (aq ⟨by decide,by decide⟩)) (jc7 _) (jc7 _) rfl all0)|exact jcv (aR hA (ExOk.mk (d:=0) kk1 (au (aq ⟨by decide,by decide⟩)) (jc7 _) (jc7 _) rfl all0)) (by rw [jc8];show z.toNat < o.length+1;omega) (q149 _ _ _ _ (by repeat (first|exact ok|exact ok1|exact ok2|refine am ?_|refine (q149 _ _ _ _ ?_ ⟨_,⟨hT,hl1,hl2⟩,rfl⟩).1)) ⟨_,⟨hT,hl1,hl2⟩,rfl⟩).2
         · first|(rw [jc8,hol];show z.toNat+1=_;omega)|(rw [oI,jc8,hol];show z.toNat+1=_;omega)))
  | (refine ⟨(⟨_,_,_,_⟩,_,_),⟨ok1,?_⟩,rfl,rfl,True.intro⟩
     exact ExOk.mk kk4 kk0 (jc7 _) (show o.length≤4 by omega) rfl hA)
theorem any156:AnyD Tryz.prog T 156 5 (fun m=>m=[]) (fun x:EL=>.val true [.i .i64 x.k,.i .i64 x.n,.s x.t,.sl false 144 x.l]) (fun (m:List SV) (x:EL)=>ExOk 4 x.row):=by
 refine AnyD.of (fun _=>⟨1,0,⟨#[]⟩,[]⟩) (fun _ _=>ExOk.mk (d:=3) kk1 kk0 (jc7 _) (jc7 _) rfl all0) (dM (α:=EL × Int × Int) (fun _ z=>(fun x:EL=>.val true [.i .i64 x.k,.i .i64 x.n,.s x.t,.sl false 144 x.l]) z.1) (fun a z=>curU 5 a z.2.1 z.2.2) (post:=fun a z=>bo (rowsOf a) z.2.1∧(fun (m:List SV) (x:EL)=>ExOk 4 x.row) a.tail z.1) (env:=envL [(29,(bM 5)),(154,kX),(152,(nil2 mU 144))]) (N:=31) tabT (aa ok29 (aa okE154 (aa okN152 ae))) mixed Tryz.func156 rfl Tryz.call156 Tryz.ntmps156 ?_)
 rintro cs args ⟨rows,i,h0,more,ok,hp,he⟩ hwf
 obtain ⟨rfl,rfl⟩:cs=curC 5 rows i h0∧args=more:=by simpa only [jdw,SV.tup.injEq,jdA,true_and,and_true] using he
 obtain rfl:=hp
 refine ⟨by simp,?_⟩
 clear he hwf
 rw [Tryz.results156]
 repeat' first
  | refine And.intro ?_ ?_
  | (intro h;simp only [reduceCtorEq] at h;done)
  | (intro h;rw [h])
  | intro h
 all_goals first
  | (show List.length _=_;rfl)
  | refine ⟨_,_,_,_,?_,⟨by decide,by decide⟩,rfl⟩
  | skip
 all_goals try ((with_reducible show bo _ _);repeat (first|exact ok|exact ok1|exact ok2|refine am ?_))
 refine aj (Q:=_) [0,2,3,4,5] [31,2,3] (fun n s=>∃ (z m:Int) (o:List (List D)) (I H:Int),s=([.ptr 31 0 0,.ptr 2 1 0,.ptr 3 1 0,.val false [.i .i64 m],.val false [.i .i64 z]],[(0,[.val false [.sl false 5 rows],.val false [.i .i64 I],.val false [.i .i64 H]]),(1,[.val false [.i .i64 0],.val false [.i .i64 0],.val false [.s ByteArray.empty],.val false [.sl true 144 []]]),(1,[.val false [.i .i64 4],.val false [.i .i64 0],.val false [.s ByteArray.empty],.val false [.sl true 144 (o)]])])∧0≤m∧m≤3∧bo rows I∧(∀ y ∈ o,ExOk 2 y)∧o.length=z.toNat∧0≤z∧z≤m∧n=m.toNat - z.toNat) ?_ ?_
 · exact ⟨rfl,_,0,_,_,_,_,rfl,(aP (rows:=rows) (i:=i) (h:=h0) (n:=4) ⟨by decide,by decide⟩).1,jeA (aP (rows:=rows) (i:=i) (h:=h0) (n:=4) ⟨by decide,by decide⟩).2,am ok,all0,rfl,by decide,(aP (rows:=rows) (i:=i) (h:=h0) (n:=4) ⟨by decide,by decide⟩).1,rfl⟩
 rintro n s ⟨z,m,o,I,H,rfl,hm0,hm1,ok1,hA,hol,h1,h2,h3⟩
 repeat' first
  | refine And.intro ?_ ?_
  | (intro h;simp only [reduceCtorEq] at h;done)
  | (intro h;rw [h])
  | intro h
 all_goals first
  | (show av _=true;kernel_rfl)
  | (show ba _ _=true;kernel_rfl)
  | exact Or.inr rfl
  | (show aX _ _;rfl)
  | (show List.length _=_;rfl)
  | exact ⟨_,_,_,_,(by repeat (first|exact ok|exact ok1|exact ok2|refine am ?_)),⟨by decide,by decide⟩,rfl⟩
  | exact ⟨_,rfl⟩
  | exact .inl ⟨_,_,rfl⟩
  | (show o.length+1≤maxLen;simp only [maxLen];omega)
  | (show (o.length+1) * 56≤140737488355328;omega)
  | (have hz:z < m:=jc6 ‹decide (z < m)=true›
     first
      | (refine ⟨m.toNat - (z+1).toNat,by omega,z+1,m,_,_,_,congrArg (fun q=>(([.ptr 31 0 0,.ptr 2 1 0,.ptr 3 1 0,.val false [.i .i64 _],.val false [.i .i64 q]],[(0,[.val false [.sl false 5 rows],.val false [.i .i64 _],.val false [.i .i64 _]]),(1,[.val false [.i .i64 0],.val false [.i .i64 0],.val false [.s ByteArray.empty],.val false [.sl true 144 []]]),(1,[.val false [.i .i64 4],.val false [.i .i64 0],.val false [.s ByteArray.empty],.val false [.sl true 144 (_)]])]):Snap)) (aF (by omega) (by omega)),hm0,hm1,(by repeat (first|exact ok|exact ok1|exact ok2|refine am ?_)),?_,?_,by omega,by omega,rfl⟩
         · exact aR hA (ExOk.mk (d:=1) kk4 kk0 (jc7 _) (show (2:Nat)≤4 by decide) rfl (aR (aR all0 (ExOk.mk (d:=0) kk1 (au (aq ⟨by decide,by decide⟩)) (jc7 _) (jc7 _) rfl all0)) (ExOk.mk (d:=0) kk1 (au (aq ⟨by decide,by decide⟩)) (jc7 _) (jc7 _) rfl all0)))
         · first|(rw [jc8,hol];show z.toNat+1=_;omega)|(rw [oI,jc8,hol];show z.toNat+1=_;omega)))
  | (refine ⟨(⟨_,_,_,_⟩,_,_),⟨ok1,?_⟩,rfl,rfl,True.intro⟩
     exact ExOk.mk (d:=3) kk5 kk0 (jd8 rfl) (show (2:Nat)≤4 by decide) rfl (aR (aR all0 ((ExOk.mk (d:=0) kk2 kk0 (jd8 rfl) (jc7 _) rfl all0).mono (by decide))) (ExOk.mk (d:=2) kk4 kk0 (jc7 _) (show o.length≤4 by omega) rfl hA)))
theorem any108d1:AnyD Tryz.prog T 108 5 (fun m=>∃ l:List (List D),(TR 8 l∧1≤l.length∧l.length≤16)∧m=[argS 9 l,.val false [.i .i64 1]]) (fun x:EL=>.val true [.i .i64 x.k,.i .i64 x.n,.s x.t,.sl false 144 x.l]) (fun (m:List SV) (x:EL)=>ExOk 1 x.row):=by
 obtain ⟨g149,k149,q149⟩:=any149
 obtain ⟨g151,k151,q151⟩:=any151
 obtain ⟨g153,k153,q153⟩:=any153
 obtain ⟨g155,k155,q155⟩:=any155
 obtain ⟨g156,k156,q156⟩:=any156
 refine AnyD.of (fun _=>⟨1,0,⟨#[]⟩,[]⟩) (fun _ _=>ExOk.mk (d:=0) kk1 kk0 (jc7 _) (jc7 _) rfl all0) (dM (α:=EL × Int × Int) (fun _ z=>(fun x:EL=>.val true [.i .i64 x.k,.i .i64 x.n,.s x.t,.sl false 144 x.l]) z.1) (fun a z=>curU 5 a z.2.1 z.2.2) (post:=fun a z=>bo (rowsOf a) z.2.1∧(fun (m:List SV) (x:EL)=>ExOk 1 x.row) a.tail z.1) (env:=envL [(149,spD 5 (fun m=>∃ l:List (List D),(TR 8 l∧1≤l.length∧l.length≤32)∧m=[argS 9 l]) (fun x:EL=>.val true [.i .i64 x.k,.i .i64 x.n,.s x.t,.sl false 144 x.l]) g149),(29,(bM 5)),(108, { pre:=fun _=>False,res:=fun _=>.none }),(150,sf),(48,(eI 5 9)),(151,spD 5 (fun m=>∃ l:List (List D),(TR 8 l∧1≤l.length∧l.length≤32)∧m=[argS 9 l]) (fun x:EL=>.val true [.i .i64 x.k,.i .i64 x.n,.s x.t,.sl false 144 x.l]) g151),(153,spD 5 (fun m=>∃ a b:EL,m=[argG [.i .i64,.i .i64,.s,.l 144] a.row,argG [.i .i64,.i .i64,.s,.l 144] b.row]) (fun x:EL=>.val true [.i .i64 x.k,.i .i64 x.n,.s x.t,.sl false 144 x.l]) g153),(152,(nil2 mU 144)),(154,kX),(155,spD 5 (fun m=>m=[]) (fun x:EL=>.val true [.i .i64 x.k,.i .i64 x.n,.s x.t,.sl false 144 x.l]) g155),(156,spD 5 (fun m=>m=[]) (fun x:EL=>.val true [.i .i64 x.k,.i .i64 x.n,.s x.t,.sl false 144 x.l]) g156)]) (N:=209) tabT (aa k149 (aa ok29 (aa (FOk.no Tryz.call108) (aa okE150 (aa ok48 (aa k151 (aa k153 (aa okN152 (aa okE154 (aa k155 (aa k156 ae))))))))))) mixed Tryz.func108 rfl Tryz.call108 Tryz.ntmps108 ?_)
 rintro cs args ⟨rows,i,h0,more,ok,hp,he⟩ hwf
 obtain ⟨rfl,rfl⟩:cs=curC 5 rows i h0∧args=more:=by simpa only [jdw,SV.tup.injEq,jdA,true_and,and_true] using he
 obtain ⟨l,⟨hT,hl1,hl2⟩,rfl⟩:=hp
 refine ⟨by simp,?_⟩
 clear he hwf
 rw [Tryz.results108]
 repeat' first
  | refine And.intro ?_ ?_
  | (intro h;simp only [reduceCtorEq] at h;done)
  | (intro h;rw [h])
  | intro h
 all_goals first
  | exact Or.inr rfl
  | exact absurd (by assumption:decide ((1:Int) < 2)=false) (by decide)
  | (show List.length _=_;rfl)
  | refine ⟨_,_,_,_,?_,⟨_,⟨hT,hl1,(by omega)⟩,rfl⟩,rfl⟩
  | (refine ⟨(⟨_,_,_,_⟩,_,_),⟨?_,?_⟩,rfl,rfl,True.intro⟩;rotate_left;focus (refine (q149 _ _ _ _ ?_ ⟨_,⟨hT,hl1,(by omega)⟩,rfl⟩).2))
 all_goals repeat (first|exact ok|exact ok1|exact ok2|refine am ?_|refine (q149 _ _ _ _ ?_ ⟨_,⟨hT,hl1,(by omega)⟩,rfl⟩).1|refine (q151 _ _ _ _ ?_ ⟨_,⟨‹_›, ‹_›, ‹_›⟩,rfl⟩).1|refine (q153 _ _ _ _ ?_ ⟨⟨_,_,_,_⟩,⟨_,_,_,_⟩,rfl⟩).1|refine (q155 _ _ _ _ ?_ rfl).1|refine (q156 _ _ _ _ ?_ rfl).1)
theorem any108d2:AnyD Tryz.prog T 108 5 (fun m=>∃ l:List (List D),(TR 8 l∧1≤l.length∧l.length≤8)∧m=[argS 9 l,.val false [.i .i64 2]]) (fun x:EL=>.val true [.i .i64 x.k,.i .i64 x.n,.s x.t,.sl false 144 x.l]) (fun (m:List SV) (x:EL)=>ExOk 5 x.row):=by
 obtain ⟨g149,k149,q149⟩:=any149
 obtain ⟨g108d1,k108d1,q108d1⟩:=any108d1
 obtain ⟨g151,k151,q151⟩:=any151
 obtain ⟨g153,k153,q153⟩:=any153
 obtain ⟨g155,k155,q155⟩:=any155
 obtain ⟨g156,k156,q156⟩:=any156
 refine AnyD.of (fun _=>⟨1,0,⟨#[]⟩,[]⟩) (fun _ _=>ExOk.mk (d:=4) kk1 kk0 (jc7 _) (jc7 _) rfl all0) (dM (α:=EL × Int × Int) (fun _ z=>(fun x:EL=>.val true [.i .i64 x.k,.i .i64 x.n,.s x.t,.sl false 144 x.l]) z.1) (fun a z=>curU 5 a z.2.1 z.2.2) (post:=fun a z=>bo (rowsOf a) z.2.1∧(fun (m:List SV) (x:EL)=>ExOk 5 x.row) a.tail z.1) (env:=envL [(149,spD 5 (fun m=>∃ l:List (List D),(TR 8 l∧1≤l.length∧l.length≤32)∧m=[argS 9 l]) (fun x:EL=>.val true [.i .i64 x.k,.i .i64 x.n,.s x.t,.sl false 144 x.l]) g149),(29,(bM 5)),(108,spD 5 (fun m=>∃ l:List (List D),(TR 8 l∧1≤l.length∧l.length≤16)∧m=[argS 9 l,.val false [.i .i64 1]]) (fun x:EL=>.val true [.i .i64 x.k,.i .i64 x.n,.s x.t,.sl false 144 x.l]) g108d1),(150,sf),(48,(eI 5 9)),(151,spD 5 (fun m=>∃ l:List (List D),(TR 8 l∧1≤l.length∧l.length≤32)∧m=[argS 9 l]) (fun x:EL=>.val true [.i .i64 x.k,.i .i64 x.n,.s x.t,.sl false 144 x.l]) g151),(153,spD 5 (fun m=>∃ a b:EL,m=[argG [.i .i64,.i .i64,.s,.l 144] a.row,argG [.i .i64,.i .i64,.s,.l 144] b.row]) (fun x:EL=>.val true [.i .i64 x.k,.i .i64 x.n,.s x.t,.sl false 144 x.l]) g153),(152,(nil2 mU 144)),(154,kX),(155,spD 5 (fun m=>m=[]) (fun x:EL=>.val true [.i .i64 x.k,.i .i64 x.n,.s x.t,.sl false 144 x.l]) g155),(156,spD 5 (fun m=>m=[]) (fun x:EL=>.val true [.i .i64 x.k,.i .i64 x.n,.s x.t,.sl false 144 x.l]) g156)]) (N:=209) tabT (aa k149 (aa ok29 (aa k108d1 (aa okE150 (aa ok48 (aa k151 (aa k153 (aa okN152 (aa okE154 (aa k155 (aa k156 ae))))))))))) mixed Tryz.func108 rfl Tryz.call108 Tryz.ntmps108 ?_)
 rintro cs args ⟨rows,i,h0,more,ok,hp,he⟩ hwf
 obtain ⟨rfl,rfl⟩:cs=curC 5 rows i h0∧args=more:=by simpa only [jdw,SV.tup.injEq,jdA,true_and,and_true] using he
 obtain ⟨l,⟨hT,hl1,hl2⟩,rfl⟩:=hp
 refine ⟨by simp,?_⟩
 clear he hwf
 rw [Tryz.results108]
 repeat' first
  | refine And.intro ?_ ?_
  | (intro h;simp only [reduceCtorEq] at h;done)
  | (intro h;rw [h])
  | intro h
 all_goals first
  | exact Or.inr rfl
  | exact absurd (by assumption:decide ((2:Int) < 2)=true) (by decide)
  | (show List.length _=_;rfl)
  | refine ⟨_,_,_,_,?_,⟨by decide,by decide⟩,rfl⟩
  | refine ⟨_,_,_,_,?_,⟨_,⟨hT,hl1,(by omega)⟩,rfl⟩,rfl⟩
  | refine ⟨_,_,_,_,?_,(by first|exact ⟨_,⟨hT,hl1,(by omega)⟩,rfl⟩|exact ⟨_,⟨(TR.nil.add (af (P:=fun t=>t.size≤8) (jc7 _) (by intro r hr;simp only [az,jdf,jdc,jde,jda,or_false] at hr;rcases hr with rfl|rfl|rfl <;> (first|decide|exact hT.pick _)) _)).app hT,(by rw [jc8];show 1≤1+l.length;omega),(by rw [jc8];show 1+l.length≤16;omega)⟩,rfl⟩|exact ⟨_,⟨((TR.nil.add (af (P:=fun t=>t.size≤8) (jc7 _) (by intro r hr;simp only [az,jdf,jdc,jde,jda,or_false] at hr;rcases hr with rfl|rfl|rfl <;> (first|decide|exact hT.pick _)) _)).add (af (P:=fun t=>t.size≤8) (jc7 _) (by intro r hr;simp only [az,jdf,jdc,jde,jda,or_false] at hr;rcases hr with rfl|rfl|rfl <;> (first|decide|exact hT.pick _)) _)).app hT,(by rw [jc8];show 1≤2+l.length;omega),(by rw [jc8];show 2+l.length≤16;omega)⟩,rfl⟩),rfl⟩
  | refine ⟨_,_,_,_,?_,⟨⟨_,_,_,_⟩,⟨_,_,_,_⟩,rfl⟩,rfl⟩
  | refine ⟨_,_,_,_,?_,rfl,rfl⟩
  | (show (0:Int) < (l.length:Int);omega)
  | (show 1+l.length≤maxLen;simp only [maxLen];omega)
  | (show 2+l.length≤maxLen;simp only [maxLen];omega)
  | (show (1+l.length) * 16≤140737488355328;omega)
  | (show (2+l.length) * 16≤140737488355328;omega)
  | exact jdR _
  | refine ⟨_,_,_,_,?_,(by exact (show bT ((3:Nat):Int) from ⟨by decide,by decide⟩)),rfl⟩
  | exact ⟨_,EL.row _,EL.row _,rfl⟩
  | exact .inl ⟨_,_,rfl⟩
  | exact .inr ⟨_,rfl,_,_,rfl⟩
  | exact ⟨_,rfl⟩
  | (refine ⟨(⟨_,_,_,_⟩,_,_),⟨?_,?_⟩,rfl,rfl,True.intro⟩;rotate_left;focus ((refine ExOk.mk (d:=4) kk6 (aV _ _) (jc7 _) (by first|exact (show (0:Nat)≤4 by decide)|exact (show (1:Nat)≤4 by decide)|exact (show (2:Nat)≤4 by decide)|exact (show (3:Nat)≤4 by decide)) rfl ?_;(repeat' (first|with_reducible exact all0|with_reducible refine aR ?_ ?_|refine (q151 _ _ _ _ ?_ ⟨_,⟨hT,hl1,(by omega)⟩,rfl⟩).2.mono (by decide)|refine (q108d1 _ _ _ _ ?_ (by first|exact ⟨_,⟨hT,hl1,(by omega)⟩,rfl⟩|exact ⟨_,⟨(TR.nil.add (af (P:=fun t=>t.size≤8) (jc7 _) (by intro r hr;simp only [az,jdf,jdc,jde,jda,or_false] at hr;rcases hr with rfl|rfl|rfl <;> (first|decide|exact hT.pick _)) _)).app hT,(by rw [jc8];show 1≤1+l.length;omega),(by rw [jc8];show 1+l.length≤16;omega)⟩,rfl⟩|exact ⟨_,⟨((TR.nil.add (af (P:=fun t=>t.size≤8) (jc7 _) (by intro r hr;simp only [az,jdf,jdc,jde,jda,or_false] at hr;rcases hr with rfl|rfl|rfl <;> (first|decide|exact hT.pick _)) _)).add (af (P:=fun t=>t.size≤8) (jc7 _) (by intro r hr;simp only [az,jdf,jdc,jde,jda,or_false] at hr;rcases hr with rfl|rfl|rfl <;> (first|decide|exact hT.pick _)) _)).app hT,(by rw [jc8];show 1≤2+l.length;omega),(by rw [jc8];show 2+l.length≤16;omega)⟩,rfl⟩)).2.mono (by decide)|refine (q155 _ _ _ _ ?_ rfl).2.mono (by decide)|refine (q156 _ _ _ _ ?_ rfl).2.mono (by decide)|exact (ExOk.mk (d:=0) kk1 (au (aq ⟨by decide,by decide⟩)) (jc7 _) (jc7 _) rfl all0).mono (by decide)|exact (ExOk.mk (d:=0) kk1 (aV _ _) (jc7 _) (jc7 _) rfl all0).mono (by decide)|exact (ExOk.mk (d:=0) kk2 kk0 (af (P:=fun t=>t.size≤8) (jc7 _) (by intro r hr;simp only [az,jdf,jdc,jde,jda,or_false] at hr;rcases hr with rfl|rfl|rfl <;> (first|decide|exact hT.pick _)) _) (jc7 _) rfl all0).mono (by decide)|refine (q153 _ _ _ _ (by repeat (first|exact ok|exact ok1|exact ok2|refine am ?_|refine (q149 _ _ _ _ ?_ ⟨_,⟨hT,hl1,(by omega)⟩,rfl⟩).1|refine (q108d1 _ _ _ _ ?_ (by first|exact ⟨_,⟨hT,hl1,(by omega)⟩,rfl⟩|exact ⟨_,⟨(TR.nil.add (af (P:=fun t=>t.size≤8) (jc7 _) (by intro r hr;simp only [az,jdf,jdc,jde,jda,or_false] at hr;rcases hr with rfl|rfl|rfl <;> (first|decide|exact hT.pick _)) _)).app hT,(by rw [jc8];show 1≤1+l.length;omega),(by rw [jc8];show 1+l.length≤16;omega)⟩,rfl⟩|exact ⟨_,⟨((TR.nil.add (af (P:=fun t=>t.size≤8) (jc7 _) (by intro r hr;simp only [az,jdf,jdc,jde,jda,or_false] at hr;rcases hr with rfl|rfl|rfl <;> (first|decide|exact hT.pick _)) _)).add (af (P:=fun t=>t.size≤8) (jc7 _) (by intro r hr;simp only [az,jdf,jdc,jde,jda,or_false] at hr;rcases hr with rfl|rfl|rfl <;> (first|decide|exact hT.pick _)) _)).app hT,(by rw [jc8];show 1≤2+l.length;omega),(by rw [jc8];show 2+l.length≤16;omega)⟩,rfl⟩)).1|refine (q151 _ _ _ _ ?_ ⟨_,⟨hT,hl1,(by omega)⟩,rfl⟩).1|refine (q153 _ _ _ _ ?_ ⟨⟨_,_,_,_⟩,⟨_,_,_,_⟩,rfl⟩).1|refine (q155 _ _ _ _ ?_ rfl).1|refine (q156 _ _ _ _ ?_ rfl).1)) ⟨⟨_,_,_,_⟩,⟨_,_,_,_⟩,rfl⟩).2 (ExOk _) (all2 ?_ ?_)|refine ExOk.mk (d:=3) kk5 kk0 (jd8 rfl) (by first|exact (show (0:Nat)≤4 by decide)|exact (show (1:Nat)≤4 by decide)|exact (show (2:Nat)≤4 by decide)|exact (show (3:Nat)≤4 by decide)) rfl ?_|refine aR ?_ ?_|exact all0)))))
  | (refine ⟨(⟨_,_,_,_⟩,_,_),⟨?_,?_⟩,rfl,rfl,True.intro⟩;rotate_left;focus ((refine ExOk.mk (d:=4) kk7 kk0 (af (P:=fun t=>t.size≤8) (jc7 _) (by intro r hr;simp only [az,jdf,jdc,jde,jda,or_false] at hr;rcases hr with rfl|rfl|rfl <;> (first|decide|exact hT.pick _)) _) (by first|exact (show (0:Nat)≤4 by decide)|exact (show (1:Nat)≤4 by decide)|exact (show (2:Nat)≤4 by decide)|exact (show (3:Nat)≤4 by decide)) rfl ?_;(repeat' (first|with_reducible exact all0|with_reducible refine aR ?_ ?_|refine (q151 _ _ _ _ ?_ ⟨_,⟨hT,hl1,(by omega)⟩,rfl⟩).2.mono (by decide)|refine (q108d1 _ _ _ _ ?_ (by first|exact ⟨_,⟨hT,hl1,(by omega)⟩,rfl⟩|exact ⟨_,⟨(TR.nil.add (af (P:=fun t=>t.size≤8) (jc7 _) (by intro r hr;simp only [az,jdf,jdc,jde,jda,or_false] at hr;rcases hr with rfl|rfl|rfl <;> (first|decide|exact hT.pick _)) _)).app hT,(by rw [jc8];show 1≤1+l.length;omega),(by rw [jc8];show 1+l.length≤16;omega)⟩,rfl⟩|exact ⟨_,⟨((TR.nil.add (af (P:=fun t=>t.size≤8) (jc7 _) (by intro r hr;simp only [az,jdf,jdc,jde,jda,or_false] at hr;rcases hr with rfl|rfl|rfl <;> (first|decide|exact hT.pick _)) _)).add (af (P:=fun t=>t.size≤8) (jc7 _) (by intro r hr;simp only [az,jdf,jdc,jde,jda,or_false] at hr;rcases hr with rfl|rfl|rfl <;> (first|decide|exact hT.pick _)) _)).app hT,(by rw [jc8];show 1≤2+l.length;omega),(by rw [jc8];show 2+l.length≤16;omega)⟩,rfl⟩)).2.mono (by decide)|refine (q155 _ _ _ _ ?_ rfl).2.mono (by decide)|refine (q156 _ _ _ _ ?_ rfl).2.mono (by decide)|exact (ExOk.mk (d:=0) kk1 (au (aq ⟨by decide,by decide⟩)) (jc7 _) (jc7 _) rfl all0).mono (by decide)|exact (ExOk.mk (d:=0) kk1 (aV _ _) (jc7 _) (jc7 _) rfl all0).mono (by decide)|exact (ExOk.mk (d:=0) kk2 kk0 (af (P:=fun t=>t.size≤8) (jc7 _) (by intro r hr;simp only [az,jdf,jdc,jde,jda,or_false] at hr;rcases hr with rfl|rfl|rfl <;> (first|decide|exact hT.pick _)) _) (jc7 _) rfl all0).mono (by decide)|refine (q153 _ _ _ _ (by repeat (first|exact ok|exact ok1|exact ok2|refine am ?_|refine (q149 _ _ _ _ ?_ ⟨_,⟨hT,hl1,(by omega)⟩,rfl⟩).1|refine (q108d1 _ _ _ _ ?_ (by first|exact ⟨_,⟨hT,hl1,(by omega)⟩,rfl⟩|exact ⟨_,⟨(TR.nil.add (af (P:=fun t=>t.size≤8) (jc7 _) (by intro r hr;simp only [az,jdf,jdc,jde,jda,or_false] at hr;rcases hr with rfl|rfl|rfl <;> (first|decide|exact hT.pick _)) _)).app hT,(by rw [jc8];show 1≤1+l.length;omega),(by rw [jc8];show 1+l.length≤16;omega)⟩,rfl⟩|exact ⟨_,⟨((TR.nil.add (af (P:=fun t=>t.size≤8) (jc7 _) (by intro r hr;simp only [az,jdf,jdc,jde,jda,or_false] at hr;rcases hr with rfl|rfl|rfl <;> (first|decide|exact hT.pick _)) _)).add (af (P:=fun t=>t.size≤8) (jc7 _) (by intro r hr;simp only [az,jdf,jdc,jde,jda,or_false] at hr;rcases hr with rfl|rfl|rfl <;> (first|decide|exact hT.pick _)) _)).app hT,(by rw [jc8];show 1≤2+l.length;omega),(by rw [jc8];show 2+l.length≤16;omega)⟩,rfl⟩)).1|refine (q151 _ _ _ _ ?_ ⟨_,⟨hT,hl1,(by omega)⟩,rfl⟩).1|refine (q153 _ _ _ _ ?_ ⟨⟨_,_,_,_⟩,⟨_,_,_,_⟩,rfl⟩).1|refine (q155 _ _ _ _ ?_ rfl).1|refine (q156 _ _ _ _ ?_ rfl).1)) ⟨⟨_,_,_,_⟩,⟨_,_,_,_⟩,rfl⟩).2 (ExOk _) (all2 ?_ ?_)|refine ExOk.mk (d:=3) kk5 kk0 (jd8 rfl) (by first|exact (show (0:Nat)≤4 by decide)|exact (show (1:Nat)≤4 by decide)|exact (show (2:Nat)≤4 by decide)|exact (show (3:Nat)≤4 by decide)) rfl ?_|refine aR ?_ ?_|exact all0)))))
  | (refine ⟨(⟨_,_,_,_⟩,_,_),⟨?_,?_⟩,rfl,rfl,True.intro⟩;rotate_left;focus ((refine ExOk.mk (d:=4) kk9 kk0 (af (P:=fun t=>t.size≤8) (jc7 _) (by intro r hr;simp only [az,jdf,jdc,jde,jda,or_false] at hr;rcases hr with rfl|rfl|rfl <;> (first|decide|exact hT.pick _)) _) (by first|exact (show (0:Nat)≤4 by decide)|exact (show (1:Nat)≤4 by decide)|exact (show (2:Nat)≤4 by decide)|exact (show (3:Nat)≤4 by decide)) rfl ?_;(repeat' (first|with_reducible exact all0|with_reducible refine aR ?_ ?_|refine (q151 _ _ _ _ ?_ ⟨_,⟨hT,hl1,(by omega)⟩,rfl⟩).2.mono (by decide)|refine (q108d1 _ _ _ _ ?_ (by first|exact ⟨_,⟨hT,hl1,(by omega)⟩,rfl⟩|exact ⟨_,⟨(TR.nil.add (af (P:=fun t=>t.size≤8) (jc7 _) (by intro r hr;simp only [az,jdf,jdc,jde,jda,or_false] at hr;rcases hr with rfl|rfl|rfl <;> (first|decide|exact hT.pick _)) _)).app hT,(by rw [jc8];show 1≤1+l.length;omega),(by rw [jc8];show 1+l.length≤16;omega)⟩,rfl⟩|exact ⟨_,⟨((TR.nil.add (af (P:=fun t=>t.size≤8) (jc7 _) (by intro r hr;simp only [az,jdf,jdc,jde,jda,or_false] at hr;rcases hr with rfl|rfl|rfl <;> (first|decide|exact hT.pick _)) _)).add (af (P:=fun t=>t.size≤8) (jc7 _) (by intro r hr;simp only [az,jdf,jdc,jde,jda,or_false] at hr;rcases hr with rfl|rfl|rfl <;> (first|decide|exact hT.pick _)) _)).app hT,(by rw [jc8];show 1≤2+l.length;omega),(by rw [jc8];show 2+l.length≤16;omega)⟩,rfl⟩)).2.mono (by decide)|refine (q155 _ _ _ _ ?_ rfl).2.mono (by decide)|refine (q156 _ _ _ _ ?_ rfl).2.mono (by decide)|exact (ExOk.mk (d:=0) kk1 (au (aq ⟨by decide,by decide⟩)) (jc7 _) (jc7 _) rfl all0).mono (by decide)|exact (ExOk.mk (d:=0) kk1 (aV _ _) (jc7 _) (jc7 _) rfl all0).mono (by decide)|exact (ExOk.mk (d:=0) kk2 kk0 (af (P:=fun t=>t.size≤8) (jc7 _) (by intro r hr;simp only [az,jdf,jdc,jde,jda,or_false] at hr;rcases hr with rfl|rfl|rfl <;> (first|decide|exact hT.pick _)) _) (jc7 _) rfl all0).mono (by decide)|refine (q153 _ _ _ _ (by repeat (first|exact ok|exact ok1|exact ok2|refine am ?_|refine (q149 _ _ _ _ ?_ ⟨_,⟨hT,hl1,(by omega)⟩,rfl⟩).1|refine (q108d1 _ _ _ _ ?_ (by first|exact ⟨_,⟨hT,hl1,(by omega)⟩,rfl⟩|exact ⟨_,⟨(TR.nil.add (af (P:=fun t=>t.size≤8) (jc7 _) (by intro r hr;simp only [az,jdf,jdc,jde,jda,or_false] at hr;rcases hr with rfl|rfl|rfl <;> (first|decide|exact hT.pick _)) _)).app hT,(by rw [jc8];show 1≤1+l.length;omega),(by rw [jc8];show 1+l.length≤16;omega)⟩,rfl⟩|exact ⟨_,⟨((TR.nil.add (af (P:=fun t=>t.size≤8) (jc7 _) (by intro r hr;simp only [az,jdf,jdc,jde,jda,or_false] at hr;rcases hr with rfl|rfl|rfl <;> (first|decide|exact hT.pick _)) _)).add (af (P:=fun t=>t.size≤8) (jc7 _) (by intro r hr;simp only [az,jdf,jdc,jde,jda,or_false] at hr;rcases hr with rfl|rfl|rfl <;> (first|decide|exact hT.pick _)) _)).app hT,(by rw [jc8];show 1≤2+l.length;omega),(by rw [jc8];show 2+l.length≤16;omega)⟩,rfl⟩)).1|refine (q151 _ _ _ _ ?_ ⟨_,⟨hT,hl1,(by omega)⟩,rfl⟩).1|refine (q153 _ _ _ _ ?_ ⟨⟨_,_,_,_⟩,⟨_,_,_,_⟩,rfl⟩).1|refine (q155 _ _ _ _ ?_ rfl).1|refine (q156 _ _ _ _ ?_ rfl).1)) ⟨⟨_,_,_,_⟩,⟨_,_,_,_⟩,rfl⟩).2 (ExOk _) (all2 ?_ ?_)|refine ExOk.mk (d:=3) kk5 kk0 (jd8 rfl) (by first|exact (show (0:Nat)≤4 by decide)|exact (show (1:Nat)≤4 by decide)|exact (show (2:Nat)≤4 by decide)|exact (show (3:Nat)≤4 by decide)) rfl ?_|refine aR ?_ ?_|exact all0)))))
  | (refine ⟨(⟨_,_,_,_⟩,_,_),⟨?_,?_⟩,rfl,rfl,True.intro⟩;rotate_left;focus ((refine ExOk.mk (d:=4) kk8 kk0 (jc7 _) (by first|exact (show (0:Nat)≤4 by decide)|exact (show (1:Nat)≤4 by decide)|exact (show (2:Nat)≤4 by decide)|exact (show (3:Nat)≤4 by decide)) rfl ?_;(repeat' (first|with_reducible exact all0|with_reducible refine aR ?_ ?_|refine (q151 _ _ _ _ ?_ ⟨_,⟨hT,hl1,(by omega)⟩,rfl⟩).2.mono (by decide)|refine (q108d1 _ _ _ _ ?_ (by first|exact ⟨_,⟨hT,hl1,(by omega)⟩,rfl⟩|exact ⟨_,⟨(TR.nil.add (af (P:=fun t=>t.size≤8) (jc7 _) (by intro r hr;simp only [az,jdf,jdc,jde,jda,or_false] at hr;rcases hr with rfl|rfl|rfl <;> (first|decide|exact hT.pick _)) _)).app hT,(by rw [jc8];show 1≤1+l.length;omega),(by rw [jc8];show 1+l.length≤16;omega)⟩,rfl⟩|exact ⟨_,⟨((TR.nil.add (af (P:=fun t=>t.size≤8) (jc7 _) (by intro r hr;simp only [az,jdf,jdc,jde,jda,or_false] at hr;rcases hr with rfl|rfl|rfl <;> (first|decide|exact hT.pick _)) _)).add (af (P:=fun t=>t.size≤8) (jc7 _) (by intro r hr;simp only [az,jdf,jdc,jde,jda,or_false] at hr;rcases hr with rfl|rfl|rfl <;> (first|decide|exact hT.pick _)) _)).app hT,(by rw [jc8];show 1≤2+l.length;omega),(by rw [jc8];show 2+l.length≤16;omega)⟩,rfl⟩)).2.mono (by decide)|refine (q155 _ _ _ _ ?_ rfl).2.mono (by decide)|refine (q156 _ _ _ _ ?_ rfl).2.mono (by decide)|exact (ExOk.mk (d:=0) kk1 (au (aq ⟨by decide,by decide⟩)) (jc7 _) (jc7 _) rfl all0).mono (by decide)|exact (ExOk.mk (d:=0) kk1 (aV _ _) (jc7 _) (jc7 _) rfl all0).mono (by decide)|exact (ExOk.mk (d:=0) kk2 kk0 (af (P:=fun t=>t.size≤8) (jc7 _) (by intro r hr;simp only [az,jdf,jdc,jde,jda,or_false] at hr;rcases hr with rfl|rfl|rfl <;> (first|decide|exact hT.pick _)) _) (jc7 _) rfl all0).mono (by decide)|refine (q153 _ _ _ _ (by repeat (first|exact ok|exact ok1|exact ok2|refine am ?_|refine (q149 _ _ _ _ ?_ ⟨_,⟨hT,hl1,(by omega)⟩,rfl⟩).1|refine (q108d1 _ _ _ _ ?_ (by first|exact ⟨_,⟨hT,hl1,(by omega)⟩,rfl⟩|exact ⟨_,⟨(TR.nil.add (af (P:=fun t=>t.size≤8) (jc7 _) (by intro r hr;simp only [az,jdf,jdc,jde,jda,or_false] at hr;rcases hr with rfl|rfl|rfl <;> (first|decide|exact hT.pick _)) _)).app hT,(by rw [jc8];show 1≤1+l.length;omega),(by rw [jc8];show 1+l.length≤16;omega)⟩,rfl⟩|exact ⟨_,⟨((TR.nil.add (af (P:=fun t=>t.size≤8) (jc7 _) (by intro r hr;simp only [az,jdf,jdc,jde,jda,or_false] at hr;rcases hr with rfl|rfl|rfl <;> (first|decide|exact hT.pick _)) _)).add (af (P:=fun t=>t.size≤8) (jc7 _) (by intro r hr;simp only [az,jdf,jdc,jde,jda,or_false] at hr;rcases hr with rfl|rfl|rfl <;> (first|decide|exact hT.pick _)) _)).app hT,(by rw [jc8];show 1≤2+l.length;omega),(by rw [jc8];show 2+l.length≤16;omega)⟩,rfl⟩)).1|refine (q151 _ _ _ _ ?_ ⟨_,⟨hT,hl1,(by omega)⟩,rfl⟩).1|refine (q153 _ _ _ _ ?_ ⟨⟨_,_,_,_⟩,⟨_,_,_,_⟩,rfl⟩).1|refine (q155 _ _ _ _ ?_ rfl).1|refine (q156 _ _ _ _ ?_ rfl).1)) ⟨⟨_,_,_,_⟩,⟨_,_,_,_⟩,rfl⟩).2 (ExOk _) (all2 ?_ ?_)|refine ExOk.mk (d:=3) kk5 kk0 (jd8 rfl) (by first|exact (show (0:Nat)≤4 by decide)|exact (show (1:Nat)≤4 by decide)|exact (show (2:Nat)≤4 by decide)|exact (show (3:Nat)≤4 by decide)) rfl ?_|refine aR ?_ ?_|exact all0)))))
  | (refine ⟨(⟨_,_,_,_⟩,_,_),⟨?_,?_⟩,rfl,rfl,True.intro⟩;rotate_left;focus (refine (q151 _ _ _ _ ?_ ⟨_,⟨hT,hl1,(by omega)⟩,rfl⟩).2.mono (by decide)))
  | (refine ⟨(⟨_,_,_,_⟩,_,_),⟨?_,?_⟩,rfl,rfl,True.intro⟩;rotate_left;focus ((refine ExOk.mk (d:=4) kk5 kk0 (jd8 rfl) (by first|exact (show (0:Nat)≤4 by decide)|exact (show (1:Nat)≤4 by decide)|exact (show (2:Nat)≤4 by decide)|exact (show (3:Nat)≤4 by decide)) rfl ?_;(repeat' (first|with_reducible exact all0|with_reducible refine aR ?_ ?_|refine (q151 _ _ _ _ ?_ ⟨_,⟨hT,hl1,(by omega)⟩,rfl⟩).2.mono (by decide)|refine (q108d1 _ _ _ _ ?_ (by first|exact ⟨_,⟨hT,hl1,(by omega)⟩,rfl⟩|exact ⟨_,⟨(TR.nil.add (af (P:=fun t=>t.size≤8) (jc7 _) (by intro r hr;simp only [az,jdf,jdc,jde,jda,or_false] at hr;rcases hr with rfl|rfl|rfl <;> (first|decide|exact hT.pick _)) _)).app hT,(by rw [jc8];show 1≤1+l.length;omega),(by rw [jc8];show 1+l.length≤16;omega)⟩,rfl⟩|exact ⟨_,⟨((TR.nil.add (af (P:=fun t=>t.size≤8) (jc7 _) (by intro r hr;simp only [az,jdf,jdc,jde,jda,or_false] at hr;rcases hr with rfl|rfl|rfl <;> (first|decide|exact hT.pick _)) _)).add (af (P:=fun t=>t.size≤8) (jc7 _) (by intro r hr;simp only [az,jdf,jdc,jde,jda,or_false] at hr;rcases hr with rfl|rfl|rfl <;> (first|decide|exact hT.pick _)) _)).app hT,(by rw [jc8];show 1≤2+l.length;omega),(by rw [jc8];show 2+l.length≤16;omega)⟩,rfl⟩)).2.mono (by decide)|refine (q155 _ _ _ _ ?_ rfl).2.mono (by decide)|refine (q156 _ _ _ _ ?_ rfl).2.mono (by decide)|exact (ExOk.mk (d:=0) kk1 (au (aq ⟨by decide,by decide⟩)) (jc7 _) (jc7 _) rfl all0).mono (by decide)|exact (ExOk.mk (d:=0) kk1 (aV _ _) (jc7 _) (jc7 _) rfl all0).mono (by decide)|exact (ExOk.mk (d:=0) kk2 kk0 (af (P:=fun t=>t.size≤8) (jc7 _) (by intro r hr;simp only [az,jdf,jdc,jde,jda,or_false] at hr;rcases hr with rfl|rfl|rfl <;> (first|decide|exact hT.pick _)) _) (jc7 _) rfl all0).mono (by decide)|refine (q153 _ _ _ _ (by repeat (first|exact ok|exact ok1|exact ok2|refine am ?_|refine (q149 _ _ _ _ ?_ ⟨_,⟨hT,hl1,(by omega)⟩,rfl⟩).1|refine (q108d1 _ _ _ _ ?_ (by first|exact ⟨_,⟨hT,hl1,(by omega)⟩,rfl⟩|exact ⟨_,⟨(TR.nil.add (af (P:=fun t=>t.size≤8) (jc7 _) (by intro r hr;simp only [az,jdf,jdc,jde,jda,or_false] at hr;rcases hr with rfl|rfl|rfl <;> (first|decide|exact hT.pick _)) _)).app hT,(by rw [jc8];show 1≤1+l.length;omega),(by rw [jc8];show 1+l.length≤16;omega)⟩,rfl⟩|exact ⟨_,⟨((TR.nil.add (af (P:=fun t=>t.size≤8) (jc7 _) (by intro r hr;simp only [az,jdf,jdc,jde,jda,or_false] at hr;rcases hr with rfl|rfl|rfl <;> (first|decide|exact hT.pick _)) _)).add (af (P:=fun t=>t.size≤8) (jc7 _) (by intro r hr;simp only [az,jdf,jdc,jde,jda,or_false] at hr;rcases hr with rfl|rfl|rfl <;> (first|decide|exact hT.pick _)) _)).app hT,(by rw [jc8];show 1≤2+l.length;omega),(by rw [jc8];show 2+l.length≤16;omega)⟩,rfl⟩)).1|refine (q151 _ _ _ _ ?_ ⟨_,⟨hT,hl1,(by omega)⟩,rfl⟩).1|refine (q153 _ _ _ _ ?_ ⟨⟨_,_,_,_⟩,⟨_,_,_,_⟩,rfl⟩).1|refine (q155 _ _ _ _ ?_ rfl).1|refine (q156 _ _ _ _ ?_ rfl).1)) ⟨⟨_,_,_,_⟩,⟨_,_,_,_⟩,rfl⟩).2 (ExOk _) (all2 ?_ ?_)|refine ExOk.mk (d:=3) kk5 kk0 (jd8 rfl) (by first|exact (show (0:Nat)≤4 by decide)|exact (show (1:Nat)≤4 by decide)|exact (show (2:Nat)≤4 by decide)|exact (show (3:Nat)≤4 by decide)) rfl ?_|refine aR ?_ ?_|exact all0)))))
  | (refine ⟨(⟨_,_,_,_⟩,_,_),⟨?_,?_⟩,rfl,rfl,True.intro⟩;rotate_left;focus ((refine ExOk.mk (d:=4) kk5 kk0 (af (P:=fun t=>t.size≤8) (jc7 _) (by intro r hr;simp only [az,jdf,jdc,jde,jda,or_false] at hr;rcases hr with rfl|rfl <;> (first|decide|exact hT.pick _)) _) (by first|exact (show (0:Nat)≤4 by decide)|exact (show (1:Nat)≤4 by decide)|exact (show (2:Nat)≤4 by decide)|exact (show (3:Nat)≤4 by decide)) rfl ?_;(repeat' (first|with_reducible exact all0|with_reducible refine aR ?_ ?_|refine (q151 _ _ _ _ ?_ ⟨_,⟨hT,hl1,(by omega)⟩,rfl⟩).2.mono (by decide)|refine (q108d1 _ _ _ _ ?_ (by first|exact ⟨_,⟨hT,hl1,(by omega)⟩,rfl⟩|exact ⟨_,⟨(TR.nil.add (af (P:=fun t=>t.size≤8) (jc7 _) (by intro r hr;simp only [az,jdf,jdc,jde,jda,or_false] at hr;rcases hr with rfl|rfl|rfl <;> (first|decide|exact hT.pick _)) _)).app hT,(by rw [jc8];show 1≤1+l.length;omega),(by rw [jc8];show 1+l.length≤16;omega)⟩,rfl⟩|exact ⟨_,⟨((TR.nil.add (af (P:=fun t=>t.size≤8) (jc7 _) (by intro r hr;simp only [az,jdf,jdc,jde,jda,or_false] at hr;rcases hr with rfl|rfl|rfl <;> (first|decide|exact hT.pick _)) _)).add (af (P:=fun t=>t.size≤8) (jc7 _) (by intro r hr;simp only [az,jdf,jdc,jde,jda,or_false] at hr;rcases hr with rfl|rfl|rfl <;> (first|decide|exact hT.pick _)) _)).app hT,(by rw [jc8];show 1≤2+l.length;omega),(by rw [jc8];show 2+l.length≤16;omega)⟩,rfl⟩)).2.mono (by decide)|refine (q155 _ _ _ _ ?_ rfl).2.mono (by decide)|refine (q156 _ _ _ _ ?_ rfl).2.mono (by decide)|exact (ExOk.mk (d:=0) kk1 (au (aq ⟨by decide,by decide⟩)) (jc7 _) (jc7 _) rfl all0).mono (by decide)|exact (ExOk.mk (d:=0) kk1 (aV _ _) (jc7 _) (jc7 _) rfl all0).mono (by decide)|exact (ExOk.mk (d:=0) kk2 kk0 (af (P:=fun t=>t.size≤8) (jc7 _) (by intro r hr;simp only [az,jdf,jdc,jde,jda,or_false] at hr;rcases hr with rfl|rfl|rfl <;> (first|decide|exact hT.pick _)) _) (jc7 _) rfl all0).mono (by decide)|refine (q153 _ _ _ _ (by repeat (first|exact ok|exact ok1|exact ok2|refine am ?_|refine (q149 _ _ _ _ ?_ ⟨_,⟨hT,hl1,(by omega)⟩,rfl⟩).1|refine (q108d1 _ _ _ _ ?_ (by first|exact ⟨_,⟨hT,hl1,(by omega)⟩,rfl⟩|exact ⟨_,⟨(TR.nil.add (af (P:=fun t=>t.size≤8) (jc7 _) (by intro r hr;simp only [az,jdf,jdc,jde,jda,or_false] at hr;rcases hr with rfl|rfl|rfl <;> (first|decide|exact hT.pick _)) _)).app hT,(by rw [jc8];show 1≤1+l.length;omega),(by rw [jc8];show 1+l.length≤16;omega)⟩,rfl⟩|exact ⟨_,⟨((TR.nil.add (af (P:=fun t=>t.size≤8) (jc7 _) (by intro r hr;simp only [az,jdf,jdc,jde,jda,or_false] at hr;rcases hr with rfl|rfl|rfl <;> (first|decide|exact hT.pick _)) _)).add (af (P:=fun t=>t.size≤8) (jc7 _) (by intro r hr;simp only [az,jdf,jdc,jde,jda,or_false] at hr;rcases hr with rfl|rfl|rfl <;> (first|decide|exact hT.pick _)) _)).app hT,(by rw [jc8];show 1≤2+l.length;omega),(by rw [jc8];show 2+l.length≤16;omega)⟩,rfl⟩)).1|refine (q151 _ _ _ _ ?_ ⟨_,⟨hT,hl1,(by omega)⟩,rfl⟩).1|refine (q153 _ _ _ _ ?_ ⟨⟨_,_,_,_⟩,⟨_,_,_,_⟩,rfl⟩).1|refine (q155 _ _ _ _ ?_ rfl).1|refine (q156 _ _ _ _ ?_ rfl).1)) ⟨⟨_,_,_,_⟩,⟨_,_,_,_⟩,rfl⟩).2 (ExOk _) (all2 ?_ ?_)|refine ExOk.mk (d:=3) kk5 kk0 (jd8 rfl) (by first|exact (show (0:Nat)≤4 by decide)|exact (show (1:Nat)≤4 by decide)|exact (show (2:Nat)≤4 by decide)|exact (show (3:Nat)≤4 by decide)) rfl ?_|refine aR ?_ ?_|exact all0)))))
  | (refine ⟨(⟨_,_,_,_⟩,_,_),⟨?_,?_⟩,rfl,rfl,True.intro⟩;rotate_left;focus ((refine ExOk.mk (d:=4) kk5 kk0 (af (P:=fun t=>t.size≤8) (jc7 _) (by intro r hr;simp only [az,jdf,jdc,jde,jda,or_false] at hr;rcases hr with rfl|rfl|rfl|rfl <;> (first|decide|exact hT.pick _)) _) (by first|exact (show (0:Nat)≤4 by decide)|exact (show (1:Nat)≤4 by decide)|exact (show (2:Nat)≤4 by decide)|exact (show (3:Nat)≤4 by decide)) rfl ?_;(repeat' (first|with_reducible exact all0|with_reducible refine aR ?_ ?_|refine (q151 _ _ _ _ ?_ ⟨_,⟨hT,hl1,(by omega)⟩,rfl⟩).2.mono (by decide)|refine (q108d1 _ _ _ _ ?_ (by first|exact ⟨_,⟨hT,hl1,(by omega)⟩,rfl⟩|exact ⟨_,⟨(TR.nil.add (af (P:=fun t=>t.size≤8) (jc7 _) (by intro r hr;simp only [az,jdf,jdc,jde,jda,or_false] at hr;rcases hr with rfl|rfl|rfl <;> (first|decide|exact hT.pick _)) _)).app hT,(by rw [jc8];show 1≤1+l.length;omega),(by rw [jc8];show 1+l.length≤16;omega)⟩,rfl⟩|exact ⟨_,⟨((TR.nil.add (af (P:=fun t=>t.size≤8) (jc7 _) (by intro r hr;simp only [az,jdf,jdc,jde,jda,or_false] at hr;rcases hr with rfl|rfl|rfl <;> (first|decide|exact hT.pick _)) _)).add (af (P:=fun t=>t.size≤8) (jc7 _) (by intro r hr;simp only [az,jdf,jdc,jde,jda,or_false] at hr;rcases hr with rfl|rfl|rfl <;> (first|decide|exact hT.pick _)) _)).app hT,(by rw [jc8];show 1≤2+l.length;omega),(by rw [jc8];show 2+l.length≤16;omega)⟩,rfl⟩)).2.mono (by decide)|refine (q155 _ _ _ _ ?_ rfl).2.mono (by decide)|refine (q156 _ _ _ _ ?_ rfl).2.mono (by decide)|exact (ExOk.mk (d:=0) kk1 (au (aq ⟨by decide,by decide⟩)) (jc7 _) (jc7 _) rfl all0).mono (by decide)|exact (ExOk.mk (d:=0) kk1 (aV _ _) (jc7 _) (jc7 _) rfl all0).mono (by decide)|exact (ExOk.mk (d:=0) kk2 kk0 (af (P:=fun t=>t.size≤8) (jc7 _) (by intro r hr;simp only [az,jdf,jdc,jde,jda,or_false] at hr;rcases hr with rfl|rfl|rfl <;> (first|decide|exact hT.pick _)) _) (jc7 _) rfl all0).mono (by decide)|refine (q153 _ _ _ _ (by repeat (first|exact ok|exact ok1|exact ok2|refine am ?_|refine (q149 _ _ _ _ ?_ ⟨_,⟨hT,hl1,(by omega)⟩,rfl⟩).1|refine (q108d1 _ _ _ _ ?_ (by first|exact ⟨_,⟨hT,hl1,(by omega)⟩,rfl⟩|exact ⟨_,⟨(TR.nil.add (af (P:=fun t=>t.size≤8) (jc7 _) (by intro r hr;simp only [az,jdf,jdc,jde,jda,or_false] at hr;rcases hr with rfl|rfl|rfl <;> (first|decide|exact hT.pick _)) _)).app hT,(by rw [jc8];show 1≤1+l.length;omega),(by rw [jc8];show 1+l.length≤16;omega)⟩,rfl⟩|exact ⟨_,⟨((TR.nil.add (af (P:=fun t=>t.size≤8) (jc7 _) (by intro r hr;simp only [az,jdf,jdc,jde,jda,or_false] at hr;rcases hr with rfl|rfl|rfl <;> (first|decide|exact hT.pick _)) _)).add (af (P:=fun t=>t.size≤8) (jc7 _) (by intro r hr;simp only [az,jdf,jdc,jde,jda,or_false] at hr;rcases hr with rfl|rfl|rfl <;> (first|decide|exact hT.pick _)) _)).app hT,(by rw [jc8];show 1≤2+l.length;omega),(by rw [jc8];show 2+l.length≤16;omega)⟩,rfl⟩)).1|refine (q151 _ _ _ _ ?_ ⟨_,⟨hT,hl1,(by omega)⟩,rfl⟩).1|refine (q153 _ _ _ _ ?_ ⟨⟨_,_,_,_⟩,⟨_,_,_,_⟩,rfl⟩).1|refine (q155 _ _ _ _ ?_ rfl).1|refine (q156 _ _ _ _ ?_ rfl).1)) ⟨⟨_,_,_,_⟩,⟨_,_,_,_⟩,rfl⟩).2 (ExOk _) (all2 ?_ ?_)|refine ExOk.mk (d:=3) kk5 kk0 (jd8 rfl) (by first|exact (show (0:Nat)≤4 by decide)|exact (show (1:Nat)≤4 by decide)|exact (show (2:Nat)≤4 by decide)|exact (show (3:Nat)≤4 by decide)) rfl ?_|refine aR ?_ ?_|exact all0)))))
  | (refine ⟨(⟨_,_,_,_⟩,_,_),⟨?_,?_⟩,rfl,rfl,True.intro⟩;rotate_left;focus ((refine ((q153 _ _ _ _ (by repeat (first|exact ok|exact ok1|exact ok2|refine am ?_|refine (q149 _ _ _ _ ?_ ⟨_,⟨hT,hl1,(by omega)⟩,rfl⟩).1|refine (q108d1 _ _ _ _ ?_ (by first|exact ⟨_,⟨hT,hl1,(by omega)⟩,rfl⟩|exact ⟨_,⟨(TR.nil.add (af (P:=fun t=>t.size≤8) (jc7 _) (by intro r hr;simp only [az,jdf,jdc,jde,jda,or_false] at hr;rcases hr with rfl|rfl|rfl <;> (first|decide|exact hT.pick _)) _)).app hT,(by rw [jc8];show 1≤1+l.length;omega),(by rw [jc8];show 1+l.length≤16;omega)⟩,rfl⟩|exact ⟨_,⟨((TR.nil.add (af (P:=fun t=>t.size≤8) (jc7 _) (by intro r hr;simp only [az,jdf,jdc,jde,jda,or_false] at hr;rcases hr with rfl|rfl|rfl <;> (first|decide|exact hT.pick _)) _)).add (af (P:=fun t=>t.size≤8) (jc7 _) (by intro r hr;simp only [az,jdf,jdc,jde,jda,or_false] at hr;rcases hr with rfl|rfl|rfl <;> (first|decide|exact hT.pick _)) _)).app hT,(by rw [jc8];show 1≤2+l.length;omega),(by rw [jc8];show 2+l.length≤16;omega)⟩,rfl⟩)).1|refine (q151 _ _ _ _ ?_ ⟨_,⟨hT,hl1,(by omega)⟩,rfl⟩).1|refine (q153 _ _ _ _ ?_ ⟨⟨_,_,_,_⟩,⟨_,_,_,_⟩,rfl⟩).1|refine (q155 _ _ _ _ ?_ rfl).1|refine (q156 _ _ _ _ ?_ rfl).1)) ⟨⟨_,_,_,_⟩,⟨_,_,_,_⟩,rfl⟩).2 (ExOk _) (all2 ?_ ?_):ExOk 4 _).mono (by decide);(repeat' (first|with_reducible exact all0|with_reducible refine aR ?_ ?_|refine (q151 _ _ _ _ ?_ ⟨_,⟨hT,hl1,(by omega)⟩,rfl⟩).2.mono (by decide)|refine (q108d1 _ _ _ _ ?_ (by first|exact ⟨_,⟨hT,hl1,(by omega)⟩,rfl⟩|exact ⟨_,⟨(TR.nil.add (af (P:=fun t=>t.size≤8) (jc7 _) (by intro r hr;simp only [az,jdf,jdc,jde,jda,or_false] at hr;rcases hr with rfl|rfl|rfl <;> (first|decide|exact hT.pick _)) _)).app hT,(by rw [jc8];show 1≤1+l.length;omega),(by rw [jc8];show 1+l.length≤16;omega)⟩,rfl⟩|exact ⟨_,⟨((TR.nil.add (af (P:=fun t=>t.size≤8) (jc7 _) (by intro r hr;simp only [az,jdf,jdc,jde,jda,or_false] at hr;rcases hr with rfl|rfl|rfl <;> (first|decide|exact hT.pick _)) _)).add (af (P:=fun t=>t.size≤8) (jc7 _) (by intro r hr;simp only [az,jdf,jdc,jde,jda,or_false] at hr;rcases hr with rfl|rfl|rfl <;> (first|decide|exact hT.pick _)) _)).app hT,(by rw [jc8];show 1≤2+l.length;omega),(by rw [jc8];show 2+l.length≤16;omega)⟩,rfl⟩)).2.mono (by decide)|refine (q155 _ _ _ _ ?_ rfl).2.mono (by decide)|refine (q156 _ _ _ _ ?_ rfl).2.mono (by decide)|exact (ExOk.mk (d:=0) kk1 (au (aq ⟨by decide,by decide⟩)) (jc7 _) (jc7 _) rfl all0).mono (by decide)|exact (ExOk.mk (d:=0) kk1 (aV _ _) (jc7 _) (jc7 _) rfl all0).mono (by decide)|exact (ExOk.mk (d:=0) kk2 kk0 (af (P:=fun t=>t.size≤8) (jc7 _) (by intro r hr;simp only [az,jdf,jdc,jde,jda,or_false] at hr;rcases hr with rfl|rfl|rfl <;> (first|decide|exact hT.pick _)) _) (jc7 _) rfl all0).mono (by decide)|refine (q153 _ _ _ _ (by repeat (first|exact ok|exact ok1|exact ok2|refine am ?_|refine (q149 _ _ _ _ ?_ ⟨_,⟨hT,hl1,(by omega)⟩,rfl⟩).1|refine (q108d1 _ _ _ _ ?_ (by first|exact ⟨_,⟨hT,hl1,(by omega)⟩,rfl⟩|exact ⟨_,⟨(TR.nil.add (af (P:=fun t=>t.size≤8) (jc7 _) (by intro r hr;simp only [az,jdf,jdc,jde,jda,or_false] at hr;rcases hr with rfl|rfl|rfl <;> (first|decide|exact hT.pick _)) _)).app hT,(by rw [jc8];show 1≤1+l.length;omega),(by rw [jc8];show 1+l.length≤16;omega)⟩,rfl⟩|exact ⟨_,⟨((TR.nil.add (af (P:=fun t=>t.size≤8) (jc7 _) (by intro r hr;simp only [az,jdf,jdc,jde,jda,or_false] at hr;rcases hr with rfl|rfl|rfl <;> (first|decide|exact hT.pick _)) _)).add (af (P:=fun t=>t.size≤8) (jc7 _) (by intro r hr;simp only [az,jdf,jdc,jde,jda,or_false] at hr;rcases hr with rfl|rfl|rfl <;> (first|decide|exact hT.pick _)) _)).app hT,(by rw [jc8];show 1≤2+l.length;omega),(by rw [jc8];show 2+l.length≤16;omega)⟩,rfl⟩)).1|refine (q151 _ _ _ _ ?_ ⟨_,⟨hT,hl1,(by omega)⟩,rfl⟩).1|refine (q153 _ _ _ _ ?_ ⟨⟨_,_,_,_⟩,⟨_,_,_,_⟩,rfl⟩).1|refine (q155 _ _ _ _ ?_ rfl).1|refine (q156 _ _ _ _ ?_ rfl).1)) ⟨⟨_,_,_,_⟩,⟨_,_,_,_⟩,rfl⟩).2 (ExOk _) (all2 ?_ ?_)|refine ExOk.mk (d:=3) kk5 kk0 (jd8 rfl) (by first|exact (show (0:Nat)≤4 by decide)|exact (show (1:Nat)≤4 by decide)|exact (show (2:Nat)≤4 by decide)|exact (show (3:Nat)≤4 by decide)) rfl ?_|refine aR ?_ ?_|exact all0)))))
 all_goals repeat (first|exact ok|exact ok1|exact ok2|refine am ?_|refine (q149 _ _ _ _ ?_ ⟨_,⟨hT,hl1,(by omega)⟩,rfl⟩).1|refine (q108d1 _ _ _ _ ?_ (by first|exact ⟨_,⟨hT,hl1,(by omega)⟩,rfl⟩|exact ⟨_,⟨(TR.nil.add (af (P:=fun t=>t.size≤8) (jc7 _) (by intro r hr;simp only [az,jdf,jdc,jde,jda,or_false] at hr;rcases hr with rfl|rfl|rfl <;> (first|decide|exact hT.pick _)) _)).app hT,(by rw [jc8];show 1≤1+l.length;omega),(by rw [jc8];show 1+l.length≤16;omega)⟩,rfl⟩|exact ⟨_,⟨((TR.nil.add (af (P:=fun t=>t.size≤8) (jc7 _) (by intro r hr;simp only [az,jdf,jdc,jde,jda,or_false] at hr;rcases hr with rfl|rfl|rfl <;> (first|decide|exact hT.pick _)) _)).add (af (P:=fun t=>t.size≤8) (jc7 _) (by intro r hr;simp only [az,jdf,jdc,jde,jda,or_false] at hr;rcases hr with rfl|rfl|rfl <;> (first|decide|exact hT.pick _)) _)).app hT,(by rw [jc8];show 1≤2+l.length;omega),(by rw [jc8];show 2+l.length≤16;omega)⟩,rfl⟩)).1|refine (q151 _ _ _ _ ?_ ⟨_,⟨hT,hl1,(by omega)⟩,rfl⟩).1|refine (q153 _ _ _ _ ?_ ⟨⟨_,_,_,_⟩,⟨_,_,_,_⟩,rfl⟩).1|refine (q155 _ _ _ _ ?_ rfl).1|refine (q156 _ _ _ _ ?_ rfl).1)
end Go.Proofs.YtdkofgjbbdbglaaGreatDoor.Ab
