/- Drawn expressions: printed by a program of this -/
import Derived.Test.YtcllpknipmcolaaGreatDoorCJx
namespace Go.Proofs.YtcllpknipmcolaaGreatDoor.Ab
open Go.RowKit
set_option linter.all false
set_option maxRecDepth 100000
set_option maxHeartbeats 2000000
def kM:FSpec where
 pre args:=∃ n:Int,args=[.val false [.i .i64 n]]
 res args:=match args with
  | [.val _ [.i _ n]]=>.val true [.i .i64 1,.i .i64 n,.s ⟨#[]⟩,.sl true 167 []]
  | _=>.none
theorem okE181:FOk Tryz.prog T 181 kM:=by
 refine fok (env:=envL []) (N:=5) tabT ae mixed Tryz.func181 rfl Tryz.call181 Tryz.ntmps181 ?_
 rintro args ⟨n,rfl⟩ hwf
 refine ⟨by simp,?_⟩
 clear hwf
 rw [Tryz.results181]
 repeat' first
  | (refine And.intro ?_ ?_)
  | (intro h;simp only [reduceCtorEq] at h;done)
  | (intro h;rw [h])
  | (intro h)
 all_goals first
  | exact True.intro
  | exact Or.inr rfl
  | exact rfl
def wJ:FSpec where
 pre args:=∃ n:ByteArray,args=[.val false [.s n]]
 res args:=match args with
  | [.val _ [.s n]]=>.val true [.i .i64 3,.i .i64 0,.s n,.sl true 167 []]
  | _=>.none
theorem okE205:FOk Tryz.prog T 205 wJ:=by
 refine fok (env:=envL []) (N:=5) tabT ae mixed Tryz.func205 rfl Tryz.call205 Tryz.ntmps205 ?_
 rintro args ⟨n,rfl⟩ hwf
 refine ⟨by simp,?_⟩
 clear hwf
 rw [Tryz.results205]
 repeat' first
  | (refine And.intro ?_ ?_)
  | (intro h;simp only [reduceCtorEq] at h;done)
  | (intro h;rw [h])
  | (intro h)
 all_goals first
  | exact True.intro
  | exact Or.inr rfl
  | exact rfl
def rX:FSpec where
 pre args:=∃ (n:Int) (a b:List D),args=[.val false [.i .i64 n],argG [.i .i64,.i .i64,.s,.l 167] a,argG [.i .i64,.i .i64,.s,.l 167] b]
 res args:=match args with
  | [.val _ [.i _ n],.val _ ca,.val _ cb]=>.val true [.i .i64 6,.i .i64 n,.s ⟨#[]⟩,.sl true 167 ([]++[csD ca]++[csD cb])]
  | _=>.none
theorem okE177:FOk Tryz.prog T 177 rX:=by
 refine fok (env:=envL []) (N:=12) tabT ae mixed Tryz.func177 rfl Tryz.call177 Tryz.ntmps177 ?_
 rintro args ⟨n,a,b,rfl⟩ hwf
 refine ⟨by simp,?_⟩
 clear hwf
 rw [Tryz.results177]
 repeat' first
  | (refine And.intro ?_ ?_)
  | (intro h;simp only [reduceCtorEq] at h;done)
  | (intro h;rw [h])
  | (intro h)
 all_goals first
  | exact True.intro
  | exact Or.inr rfl
  | exact rfl
def mO:FSpec where
 pre args:=∃ (s:ByteArray) (l:List (List D)),args=[.val false [.s s],argS 167 l]
 res args:=match args with
  | [.val _ [.s s],.val _ [.sl _ _ l]]=>.val true [.i .i64 5,.i .i64 0,.s s,.sl false 167 l]
  | _=>.none
theorem okE179:FOk Tryz.prog T 179 mO:=by
 refine fok (env:=envL []) (N:=8) tabT ae mixed Tryz.func179 rfl Tryz.call179 Tryz.ntmps179 ?_
 rintro args ⟨n,l,rfl⟩ hwf
 refine ⟨by simp,?_⟩
 clear hwf
 rw [Tryz.results179]
 repeat' first
  | (refine And.intro ?_ ?_)
  | (intro h;simp only [reduceCtorEq] at h;done)
  | (intro h;rw [h])
  | (intro h)
 all_goals first
  | exact True.intro
  | exact Or.inr rfl
  | exact rfl
theorem okN179:FOk Tryz.prog T 179 (nil2 mO 167):=FOk.nil2 rfl (by rintro a x ⟨s,l,rfl⟩ h;simp at h) okE179
def qv (a:List SV):List (List D):=match a with
 | [.val _ c,.val _ c']=>[csD c,csD c']
 | _=>[]
theorem all2 {p:List D→Prop} {a b:List D} (ha:p a) (hb:p b):∀ y ∈ [a,b],p y:=fun y hy=>by
 rcases jcs.1 hy with rfl|hy
 · exact ha
 · exact all1 hb y hy
theorem any180:AnyD Tryz.prog T 180 5 (fun m=>∃ a b:EL,m=[argG [.i .i64,.i .i64,.s,.l 167] a.row,argG [.i .i64,.i .i64,.s,.l 167] b.row]) (fun x:EL=>.val true [.i .i64 x.k,.i .i64 x.n,.s x.t,.sl false 167 x.l]) (fun (m:List SV) (x:EL)=>∀ P:List D→Prop,(∀ r ∈ qv m,P r)→P x.row):=by
 refine AnyD.of (fun m=>⟨((qv m).getD 0 [] |>.getD 0 default).int,((qv m).getD 0 [] |>.getD 1 default).int,((qv m).getD 0 [] |>.getD 2 default).str,((qv m).getD 0 [] |>.getD 3 default).rows⟩) ((by rintro m ⟨x,y,rfl⟩ P h;exact h _ (jcP ..))) (dJ (α:=EL × Int × Int) (fun _ z=>(fun x:EL=>.val true [.i .i64 x.k,.i .i64 x.n,.s x.t,.sl false 167 x.l]) z.1) (fun a z=>curU 5 a z.2.1 z.2.2) (post:=fun a z=>bi (rowsOf a) z.2.1∧(fun (m:List SV) (x:EL)=>∀ P:List D→Prop,(∀ r ∈ qv m,P r)→P x.row) a.tail z.1) (env:=envL [(45,(jJ 5))]) (N:=11) tabT (aa ok45 ae) mixed Tryz.func180 rfl Tryz.call180 Tryz.ntmps180 ?_)
 rintro cs args ⟨rows,i,h0,more,ok,hp,he⟩ hwf
 obtain ⟨rfl,rfl⟩:cs=curC 5 rows i h0∧args=more:=by simpa only [jcK,SV.tup.injEq,jcO,true_and,and_true] using he
 obtain ⟨a,b,rfl⟩:=hp
 refine ⟨by simp,?_⟩
 clear he hwf
 rw [Tryz.results180]
 repeat' first
  | (refine And.intro ?_ ?_)
  | (intro h;simp only [reduceCtorEq] at h;done)
  | (intro h;rw [h])
  | (intro h)
 all_goals first
  | exact Or.inr rfl
  | (show List.length _=_;rfl)
  | refine ⟨_,_,_,_,?_,⟨by decide,by decide⟩,rfl⟩
  | (refine ⟨(⟨_,_,_,_⟩,_,_),⟨?_,?_⟩,rfl,rfl,True.intro⟩;rotate_left;focus (exact fun P h=>h _ (jcP ..)))
  | (refine ⟨(⟨_,_,_,_⟩,_,_),⟨?_,?_⟩,rfl,rfl,True.intro⟩;rotate_left;focus (exact fun P h=>h _ (jc3 _ (jcP ..))))
 all_goals repeat (first|exact ok|exact ok1|exact ok2|refine aj ?_)
theorem any182:AnyD Tryz.prog T 182 5 (fun m=>m=[]) (fun x:EL=>.val true [.i .i64 x.k,.i .i64 x.n,.s x.t,.sl false 167 x.l]) (fun (m:List SV) (x:EL)=>ExOk 1 x.row):=by
 refine AnyD.of (fun _=>⟨1,0,⟨#[]⟩,[]⟩) (fun _ _=>ExOk.mk (d:=0) kk1 kk0 (jcl _) (jcl _) rfl all0) (dJ (α:=EL × Int × Int) (fun _ z=>(fun x:EL=>.val true [.i .i64 x.k,.i .i64 x.n,.s x.t,.sl false 167 x.l]) z.1) (fun a z=>curU 5 a z.2.1 z.2.2) (post:=fun a z=>bi (rowsOf a) z.2.1∧(fun (m:List SV) (x:EL)=>ExOk 1 x.row) a.tail z.1) (env:=envL [(66,(ed 5 9))]) (N:=7) tabT (aa ok66 ae) mixed Tryz.func182 rfl Tryz.call182 Tryz.ntmps182 ?_)
 rintro cs args ⟨rows,i,h0,more,ok,hp,he⟩ hwf
 obtain ⟨rfl,rfl⟩:cs=curC 5 rows i h0∧args=more:=by simpa only [jcK,SV.tup.injEq,jcO,true_and,and_true] using he
 obtain rfl:=hp
 refine ⟨by simp,?_⟩
 clear he hwf
 rw [Tryz.results182]
 repeat' first
  | (refine And.intro ?_ ?_)
  | (intro h;simp only [reduceCtorEq] at h;done)
  | (intro h;rw [h])
  | (intro h)
 all_goals first
  | exact Or.inr rfl
  | (show List.length _=_;rfl)
  | refine ⟨_,_,_,_,?_,⟨by decide,by decide⟩,rfl⟩
  | (refine ⟨(⟨_,_,_,_⟩,_,_),⟨?_,?_⟩,rfl,rfl,True.intro⟩;rotate_left;focus (exact ExOk.mk (d:=0) kk2 kk0 (af (P:=fun t=>t.size≤8) (jcl _) (by intro r hr;simp only [az,jct,jcq,jcs,jco,or_false] at hr;rcases hr with rfl|rfl|rfl|rfl|rfl <;> decide) _) (jcl _) rfl all0))
 all_goals repeat (first|exact ok|exact ok1|exact ok2|refine aj ?_)
theorem any176:AnyD Tryz.prog T 176 5 (fun m=>∃ l:List (List D),(TR 8 l∧1≤l.length∧l.length≤32)∧m=[argS 9 l]) (fun x:EL=>.val true [.i .i64 x.k,.i .i64 x.n,.s x.t,.sl false 167 x.l]) (fun (m:List SV) (x:EL)=>ExOk 1 x.row):=by
 refine AnyD.of (fun _=>⟨1,0,⟨#[]⟩,[]⟩) (fun _ _=>ExOk.mk (d:=0) kk1 kk0 (jcl _) (jcl _) rfl all0) (dJ (α:=EL × Int × Int) (fun _ z=>(fun x:EL=>.val true [.i .i64 x.k,.i .i64 x.n,.s x.t,.sl false 167 x.l]) z.1) (fun a z=>curU 5 a z.2.1 z.2.2) (post:=fun a z=>bi (rowsOf a) z.2.1∧(fun (m:List SV) (x:EL)=>ExOk 1 x.row) a.tail z.1) (env:=envL [(35,(bF 5)),(66,(ed 5 9)),(181,kM),(205,wJ)]) (N:=23) tabT (aa ok35 (aa ok66 (aa okE181 (aa okE205 ae)))) mixed Tryz.func176 rfl Tryz.call176 Tryz.ntmps176 ?_)
 rintro cs args ⟨rows,i,h0,more,ok,hp,he⟩ hwf
 obtain ⟨rfl,rfl⟩:cs=curC 5 rows i h0∧args=more:=by simpa only [jcK,SV.tup.injEq,jcO,true_and,and_true] using he
 obtain ⟨l,⟨hT,hl1,hl2⟩,rfl⟩:=hp
 refine ⟨by simp,?_⟩
 clear he hwf
 rw [Tryz.results176]
 repeat' first
  | (refine And.intro ?_ ?_)
  | (intro h;simp only [reduceCtorEq] at h;done)
  | (intro h;rw [h])
  | (intro h)
 all_goals first
  | exact Or.inr rfl
  | (show List.length _=_;rfl)
  | refine ⟨_,_,_,_,?_,⟨by decide,by decide⟩,rfl⟩
  | exact ⟨_,rfl⟩
  | refine ⟨_,_,_,_,?_,⟨by omega,by omega⟩,rfl⟩
  | (refine ⟨(⟨_,_,_,_⟩,_,_),⟨?_,?_⟩,rfl,rfl,True.intro⟩;rotate_left;focus (exact ExOk.mk (d:=0) kk2 kk0 (af (P:=fun t=>t.size≤8) (jcl _) (by intro r hr;simp only [az,jct,jcq,jcs,jco,or_false] at hr;rcases hr with rfl|rfl|rfl|rfl <;> decide) _) (jcl _) rfl all0))
  | (refine ⟨(⟨_,_,_,_⟩,_,_),⟨?_,?_⟩,rfl,rfl,True.intro⟩;rotate_left;focus (exact ExOk.mk (d:=0) kk1 (ar (ao ⟨by decide,by decide⟩)) (jcl _) (jcl _) rfl all0))
  | (refine ⟨(⟨_,_,_,_⟩,_,_),⟨?_,?_⟩,rfl,rfl,True.intro⟩;rotate_left;focus (exact ExOk.mk (d:=0) kk3 kk0 (hT.pick _) (jcl _) rfl all0))
 all_goals repeat (first|exact ok|exact ok1|exact ok2|refine aj ?_)
theorem any178:AnyD Tryz.prog T 178 5 (fun m=>∃ l:List (List D),(TR 8 l∧1≤l.length∧l.length≤32)∧m=[argS 9 l]) (fun x:EL=>.val true [.i .i64 x.k,.i .i64 x.n,.s x.t,.sl false 167 x.l]) (fun (m:List SV) (x:EL)=>ExOk 2 x.row):=by
 obtain ⟨g176,k176,q176⟩:=any176
 refine AnyD.of (fun _=>⟨1,0,⟨#[]⟩,[]⟩) (fun _ _=>ExOk.mk (d:=1) kk1 kk0 (jcl _) (jcl _) rfl all0) (dJ (α:=EL × Int × Int) (fun _ z=>(fun x:EL=>.val true [.i .i64 x.k,.i .i64 x.n,.s x.t,.sl false 167 x.l]) z.1) (fun a z=>curU 5 a z.2.1 z.2.2) (post:=fun a z=>bi (rowsOf a) z.2.1∧(fun (m:List SV) (x:EL)=>ExOk 2 x.row) a.tail z.1) (env:=envL [(35,(bF 5)),(181,kM),(45,(jJ 5)),(176,spD 5 (fun m=>∃ l:List (List D),(TR 8 l∧1≤l.length∧l.length≤32)∧m=[argS 9 l]) (fun x:EL=>.val true [.i .i64 x.k,.i .i64 x.n,.s x.t,.sl false 167 x.l]) g176)]) (N:=34) tabT (aa ok35 (aa okE181 (aa ok45 (aa k176 ae)))) mixed Tryz.func178 rfl Tryz.call178 Tryz.ntmps178 ?_)
 rintro cs args ⟨rows,i,h0,more,ok,hp,he⟩ hwf
 obtain ⟨rfl,rfl⟩:cs=curC 5 rows i h0∧args=more:=by simpa only [jcK,SV.tup.injEq,jcO,true_and,and_true] using he
 obtain ⟨l,⟨hT,hl1,hl2⟩,rfl⟩:=hp
 refine ⟨by simp,?_⟩
 clear he hwf
 rw [Tryz.results178]
 repeat' first
  | (refine And.intro ?_ ?_)
  | (intro h;simp only [reduceCtorEq] at h;done)
  | (intro h;rw [h])
  | (intro h)
 all_goals first
  | (show List.length _=_;rfl)
  | refine ⟨_,_,_,_,?_,⟨by decide,by decide⟩,rfl⟩
  | skip
 all_goals try ((with_reducible show bi _ _);repeat (first|exact ok|exact ok1|exact ok2|refine aj ?_|refine (q176 _ _ _ _ ?_ ⟨_,⟨hT,hl1,hl2⟩,rfl⟩).1))
 refine am (Q:=_) [0,1,4,5,6,7] [34,4,5] (fun n s=>∃ (z m:Int) (o:List (List D)) (I H:Int),s=([.ptr 34 0 0,argS 9 l,.ptr 4 1 0,.ptr 5 1 0,.val false [.i .i64 m],.val false [.i .i64 z]],[(0,[.val false [.sl false 5 rows],.val false [.i .i64 I],.val false [.i .i64 H]]),(1,[.val false [.i .i64 0],.val false [.i .i64 0],.val false [.s ByteArray.empty],.val false [.sl true 167 []]]),(1,[.val false [.i .i64 4],.val false [.i .i64 0],.val false [.s ByteArray.empty],.val false [.sl true 167 (o)]])])∧0≤m∧m≤3∧bi rows I∧(∀ y ∈ o,ExOk 1 y)∧o.length=z.toNat∧0≤z∧z≤m∧n=m.toNat - z.toNat) ?_ ?_
 · exact ⟨rfl,_,0,_,_,_,_,rfl,(aO (rows:=rows) (i:=i) (h:=h0) (n:=4) ⟨by decide,by decide⟩).1,jdO (aO (rows:=rows) (i:=i) (h:=h0) (n:=4) ⟨by decide,by decide⟩).2,aj ok,all0,rfl,by decide,(aO (rows:=rows) (i:=i) (h:=h0) (n:=4) ⟨by decide,by decide⟩).1,rfl⟩
 rintro n s ⟨z,m,o,I,H,rfl,hm0,hm1,ok1,hA,hol,h1,h2,h3⟩
 repeat' first
  | (refine And.intro ?_ ?_)
  | (intro h;simp only [reduceCtorEq] at h;done)
  | (intro h;rw [h])
  | (intro h)
 all_goals first
  | (show av _=true;kernel_rfl)
  | (show aX _ _=true;kernel_rfl)
  | exact Or.inr rfl
  | (show aV _ _;rfl)
  | (show List.length _=_;rfl)
  | exact ⟨_,_,_,_,(by repeat (first|exact ok|exact ok1|exact ok2|refine aj ?_|refine (q176 _ _ _ _ ?_ ⟨_,⟨hT,hl1,hl2⟩,rfl⟩).1)),⟨by decide,by decide⟩,rfl⟩
  | exact ⟨_,rfl⟩
  | exact ⟨_,_,_,_,(by repeat (first|exact ok|exact ok1|exact ok2|refine aj ?_|refine (q176 _ _ _ _ ?_ ⟨_,⟨hT,hl1,hl2⟩,rfl⟩).1)),⟨_,⟨hT,hl1,hl2⟩,rfl⟩,rfl⟩
  | (show o.length+1≤maxLen;simp only [maxLen];omega)
  | (show (o.length+1) * 56≤140737488355328;omega)
  | (have hz:z < m:=jck ‹decide (z < m)=true›
     first
      | exact h1
      | (show z < (((o++_).length:Nat):Int);rw [jcm];show z < ((o.length+1:Nat):Int);omega)
      | (show z.toNat < (o++_).length;rw [jcm];show z.toNat < o.length+1;omega)
      | (refine ⟨m.toNat - (z+1).toNat,by omega,z+1,m,_,_,_,congrArg (fun q=>(([.ptr 34 0 0,argS 9 l,.ptr 4 1 0,.ptr 5 1 0,.val false [.i .i64 _],.val false [.i .i64 q]],[(0,[.val false [.sl false 5 rows],.val false [.i .i64 _],.val false [.i .i64 _]]),(1,[.val false [.i .i64 0],.val false [.i .i64 0],.val false [.s ByteArray.empty],.val false [.sl true 167 []]]),(1,[.val false [.i .i64 4],.val false [.i .i64 0],.val false [.s ByteArray.empty],.val false [.sl true 167 (_)]])]):Snap)) (aB (by omega) (by omega)),hm0,hm1,(by repeat (first|exact ok|exact ok1|exact ok2|refine aj ?_|refine (q176 _ _ _ _ ?_ ⟨_,⟨hT,hl1,hl2⟩,rfl⟩).1)),?_,?_,by omega,by omega,rfl⟩
         · first|exact aR hA (ExOk.mk (d:=0) kk1 (ar (ao ⟨by decide,by decide⟩)) (jcl _) (jcl _) rfl all0)|exact jbI (aR hA (ExOk.mk (d:=0) kk1 (ar (ao ⟨by decide,by decide⟩)) (jcl _) (jcl _) rfl all0)) (by rw [jcm];show z.toNat < o.length+1;omega) (q176 _ _ _ _ (by repeat (first|exact ok|exact ok1|exact ok2|refine aj ?_|refine (q176 _ _ _ _ ?_ ⟨_,⟨hT,hl1,hl2⟩,rfl⟩).1)) ⟨_,⟨hT,hl1,hl2⟩,rfl⟩).2
         · first|(rw [jcm,hol];show z.toNat+1=_;omega)|(rw [ou,jcm,hol];show z.toNat+1=_;omega)))
  | (refine ⟨(⟨_,_,_,_⟩,_,_),⟨ok1,?_⟩,rfl,rfl,True.intro⟩
     exact ExOk.mk kk4 kk0 (jcl _) (show o.length≤4 by omega) rfl hA)
theorem any183:AnyD Tryz.prog T 183 5 (fun m=>m=[]) (fun x:EL=>.val true [.i .i64 x.k,.i .i64 x.n,.s x.t,.sl false 167 x.l]) (fun (m:List SV) (x:EL)=>ExOk 4 x.row):=by
 refine AnyD.of (fun _=>⟨1,0,⟨#[]⟩,[]⟩) (fun _ _=>ExOk.mk (d:=3) kk1 kk0 (jcl _) (jcl _) rfl all0) (dJ (α:=EL × Int × Int) (fun _ z=>(fun x:EL=>.val true [.i .i64 x.k,.i .i64 x.n,.s x.t,.sl false 167 x.l]) z.1) (fun a z=>curU 5 a z.2.1 z.2.2) (post:=fun a z=>bi (rowsOf a) z.2.1∧(fun (m:List SV) (x:EL)=>ExOk 4 x.row) a.tail z.1) (env:=envL [(35,(bF 5)),(181,kM),(179,(nil2 mO 167))]) (N:=31) tabT (aa ok35 (aa okE181 (aa okN179 ae))) mixed Tryz.func183 rfl Tryz.call183 Tryz.ntmps183 ?_)
 rintro cs args ⟨rows,i,h0,more,ok,hp,he⟩ hwf
 obtain ⟨rfl,rfl⟩:cs=curC 5 rows i h0∧args=more:=by simpa only [jcK,SV.tup.injEq,jcO,true_and,and_true] using he
 obtain rfl:=hp
 refine ⟨by simp,?_⟩
 clear he hwf
 rw [Tryz.results183]
 repeat' first
  | (refine And.intro ?_ ?_)
  | (intro h;simp only [reduceCtorEq] at h;done)
  | (intro h;rw [h])
  | (intro h)
 all_goals first
  | (show List.length _=_;rfl)
  | refine ⟨_,_,_,_,?_,⟨by decide,by decide⟩,rfl⟩
  | skip
 all_goals try ((with_reducible show bi _ _);repeat (first|exact ok|exact ok1|exact ok2|refine aj ?_))
 refine am (Q:=_) [0,2,3,4,5] [31,2,3] (fun n s=>∃ (z m:Int) (o:List (List D)) (I H:Int),s=([.ptr 31 0 0,.ptr 2 1 0,.ptr 3 1 0,.val false [.i .i64 m],.val false [.i .i64 z]],[(0,[.val false [.sl false 5 rows],.val false [.i .i64 I],.val false [.i .i64 H]]),(1,[.val false [.i .i64 0],.val false [.i .i64 0],.val false [.s ByteArray.empty],.val false [.sl true 167 []]]),(1,[.val false [.i .i64 4],.val false [.i .i64 0],.val false [.s ByteArray.empty],.val false [.sl true 167 (o)]])])∧0≤m∧m≤3∧bi rows I∧(∀ y ∈ o,ExOk 2 y)∧o.length=z.toNat∧0≤z∧z≤m∧n=m.toNat - z.toNat) ?_ ?_
 · exact ⟨rfl,_,0,_,_,_,_,rfl,(aO (rows:=rows) (i:=i) (h:=h0) (n:=4) ⟨by decide,by decide⟩).1,jdO (aO (rows:=rows) (i:=i) (h:=h0) (n:=4) ⟨by decide,by decide⟩).2,aj ok,all0,rfl,by decide,(aO (rows:=rows) (i:=i) (h:=h0) (n:=4) ⟨by decide,by decide⟩).1,rfl⟩
 rintro n s ⟨z,m,o,I,H,rfl,hm0,hm1,ok1,hA,hol,h1,h2,h3⟩
 repeat' first
  | (refine And.intro ?_ ?_)
  | (intro h;simp only [reduceCtorEq] at h;done)
  | (intro h;rw [h])
  | (intro h)
 all_goals first
  | (show av _=true;kernel_rfl)
  | (show aX _ _=true;kernel_rfl)
  | exact Or.inr rfl
  | (show aV _ _;rfl)
  | (show List.length _=_;rfl)
  | exact ⟨_,_,_,_,(by repeat (first|exact ok|exact ok1|exact ok2|refine aj ?_)),⟨by decide,by decide⟩,rfl⟩
  | exact ⟨_,rfl⟩
  | exact .inl ⟨_,_,rfl⟩
  | (show o.length+1≤maxLen;simp only [maxLen];omega)
  | (show (o.length+1) * 56≤140737488355328;omega)
  | (have hz:z < m:=jck ‹decide (z < m)=true›
     first
      | (refine ⟨m.toNat - (z+1).toNat,by omega,z+1,m,_,_,_,congrArg (fun q=>(([.ptr 31 0 0,.ptr 2 1 0,.ptr 3 1 0,.val false [.i .i64 _],.val false [.i .i64 q]],[(0,[.val false [.sl false 5 rows],.val false [.i .i64 _],.val false [.i .i64 _]]),(1,[.val false [.i .i64 0],.val false [.i .i64 0],.val false [.s ByteArray.empty],.val false [.sl true 167 []]]),(1,[.val false [.i .i64 4],.val false [.i .i64 0],.val false [.s ByteArray.empty],.val false [.sl true 167 (_)]])]):Snap)) (aB (by omega) (by omega)),hm0,hm1,(by repeat (first|exact ok|exact ok1|exact ok2|refine aj ?_)),?_,?_,by omega,by omega,rfl⟩
         · exact aR hA (ExOk.mk (d:=1) kk4 kk0 (jcl _) (show (2:Nat)≤4 by decide) rfl (aR (aR all0 (ExOk.mk (d:=0) kk1 (ar (ao ⟨by decide,by decide⟩)) (jcl _) (jcl _) rfl all0)) (ExOk.mk (d:=0) kk1 (ar (ao ⟨by decide,by decide⟩)) (jcl _) (jcl _) rfl all0)))
         · first|(rw [jcm,hol];show z.toNat+1=_;omega)|(rw [ou,jcm,hol];show z.toNat+1=_;omega)))
  | (refine ⟨(⟨_,_,_,_⟩,_,_),⟨ok1,?_⟩,rfl,rfl,True.intro⟩
     exact ExOk.mk (d:=3) kk5 kk0 (jdm rfl) (show (2:Nat)≤4 by decide) rfl (aR (aR all0 ((ExOk.mk (d:=0) kk2 kk0 (jdm rfl) (jcl _) rfl all0).mono (by decide))) (ExOk.mk (d:=2) kk4 kk0 (jcl _) (show o.length≤4 by omega) rfl hA)))
theorem any143d1:AnyD Tryz.prog T 143 5 (fun m=>∃ l:List (List D),(TR 8 l∧1≤l.length∧l.length≤16)∧m=[argS 9 l,.val false [.i .i64 1]]) (fun x:EL=>.val true [.i .i64 x.k,.i .i64 x.n,.s x.t,.sl false 167 x.l]) (fun (m:List SV) (x:EL)=>ExOk 1 x.row):=by
 obtain ⟨g176,k176,q176⟩:=any176
 obtain ⟨g178,k178,q178⟩:=any178
 obtain ⟨g180,k180,q180⟩:=any180
 obtain ⟨g182,k182,q182⟩:=any182
 obtain ⟨g183,k183,q183⟩:=any183
 refine AnyD.of (fun _=>⟨1,0,⟨#[]⟩,[]⟩) (fun _ _=>ExOk.mk (d:=0) kk1 kk0 (jcl _) (jcl _) rfl all0) (dJ (α:=EL × Int × Int) (fun _ z=>(fun x:EL=>.val true [.i .i64 x.k,.i .i64 x.n,.s x.t,.sl false 167 x.l]) z.1) (fun a z=>curU 5 a z.2.1 z.2.2) (post:=fun a z=>bi (rowsOf a) z.2.1∧(fun (m:List SV) (x:EL)=>ExOk 1 x.row) a.tail z.1) (env:=envL [(176,spD 5 (fun m=>∃ l:List (List D),(TR 8 l∧1≤l.length∧l.length≤32)∧m=[argS 9 l]) (fun x:EL=>.val true [.i .i64 x.k,.i .i64 x.n,.s x.t,.sl false 167 x.l]) g176),(35,(bF 5)),(143, { pre:=fun _=>False,res:=fun _=>.none }),(177,rX),(66,(ed 5 9)),(178,spD 5 (fun m=>∃ l:List (List D),(TR 8 l∧1≤l.length∧l.length≤32)∧m=[argS 9 l]) (fun x:EL=>.val true [.i .i64 x.k,.i .i64 x.n,.s x.t,.sl false 167 x.l]) g178),(180,spD 5 (fun m=>∃ a b:EL,m=[argG [.i .i64,.i .i64,.s,.l 167] a.row,argG [.i .i64,.i .i64,.s,.l 167] b.row]) (fun x:EL=>.val true [.i .i64 x.k,.i .i64 x.n,.s x.t,.sl false 167 x.l]) g180),(179,(nil2 mO 167)),(181,kM),(182,spD 5 (fun m=>m=[]) (fun x:EL=>.val true [.i .i64 x.k,.i .i64 x.n,.s x.t,.sl false 167 x.l]) g182),(183,spD 5 (fun m=>m=[]) (fun x:EL=>.val true [.i .i64 x.k,.i .i64 x.n,.s x.t,.sl false 167 x.l]) g183)]) (N:=209) tabT (aa k176 (aa ok35 (aa (FOk.no Tryz.call143) (aa okE177 (aa ok66 (aa k178 (aa k180 (aa okN179 (aa okE181 (aa k182 (aa k183 ae))))))))))) mixed Tryz.func143 rfl Tryz.call143 Tryz.ntmps143 ?_)
 rintro cs args ⟨rows,i,h0,more,ok,hp,he⟩ hwf
 obtain ⟨rfl,rfl⟩:cs=curC 5 rows i h0∧args=more:=by simpa only [jcK,SV.tup.injEq,jcO,true_and,and_true] using he
 obtain ⟨l,⟨hT,hl1,hl2⟩,rfl⟩:=hp
 refine ⟨by simp,?_⟩
 clear he hwf
 rw [Tryz.results143]
 repeat' first
  | (refine And.intro ?_ ?_)
  | (intro h;simp only [reduceCtorEq] at h;done)
  | (intro h;rw [h])
  | (intro h)
 all_goals first
  | exact Or.inr rfl
  | exact absurd (by assumption:decide ((1:Int) < 2)=false) (by decide)
  | (show List.length _=_;rfl)
  | refine ⟨_,_,_,_,?_,⟨_,⟨hT,hl1,(by omega)⟩,rfl⟩,rfl⟩
  | (refine ⟨(⟨_,_,_,_⟩,_,_),⟨?_,?_⟩,rfl,rfl,True.intro⟩;rotate_left;focus (refine (q176 _ _ _ _ ?_ ⟨_,⟨hT,hl1,(by omega)⟩,rfl⟩).2))
 all_goals repeat (first|exact ok|exact ok1|exact ok2|refine aj ?_|refine (q176 _ _ _ _ ?_ ⟨_,⟨hT,hl1,(by omega)⟩,rfl⟩).1|refine (q178 _ _ _ _ ?_ ⟨_,⟨‹_›, ‹_›, ‹_›⟩,rfl⟩).1|refine (q180 _ _ _ _ ?_ ⟨⟨_,_,_,_⟩,⟨_,_,_,_⟩,rfl⟩).1|refine (q182 _ _ _ _ ?_ rfl).1|refine (q183 _ _ _ _ ?_ rfl).1)
theorem any143d2:AnyD Tryz.prog T 143 5 (fun m=>∃ l:List (List D),(TR 8 l∧1≤l.length∧l.length≤8)∧m=[argS 9 l,.val false [.i .i64 2]]) (fun x:EL=>.val true [.i .i64 x.k,.i .i64 x.n,.s x.t,.sl false 167 x.l]) (fun (m:List SV) (x:EL)=>ExOk 5 x.row):=by
 obtain ⟨g176,k176,q176⟩:=any176
 obtain ⟨g143d1,k143d1,q143d1⟩:=any143d1
 obtain ⟨g178,k178,q178⟩:=any178
 obtain ⟨g180,k180,q180⟩:=any180
 obtain ⟨g182,k182,q182⟩:=any182
 obtain ⟨g183,k183,q183⟩:=any183
 refine AnyD.of (fun _=>⟨1,0,⟨#[]⟩,[]⟩) (fun _ _=>ExOk.mk (d:=4) kk1 kk0 (jcl _) (jcl _) rfl all0) (dJ (α:=EL × Int × Int) (fun _ z=>(fun x:EL=>.val true [.i .i64 x.k,.i .i64 x.n,.s x.t,.sl false 167 x.l]) z.1) (fun a z=>curU 5 a z.2.1 z.2.2) (post:=fun a z=>bi (rowsOf a) z.2.1∧(fun (m:List SV) (x:EL)=>ExOk 5 x.row) a.tail z.1) (env:=envL [(176,spD 5 (fun m=>∃ l:List (List D),(TR 8 l∧1≤l.length∧l.length≤32)∧m=[argS 9 l]) (fun x:EL=>.val true [.i .i64 x.k,.i .i64 x.n,.s x.t,.sl false 167 x.l]) g176),(35,(bF 5)),(143,spD 5 (fun m=>∃ l:List (List D),(TR 8 l∧1≤l.length∧l.length≤16)∧m=[argS 9 l,.val false [.i .i64 1]]) (fun x:EL=>.val true [.i .i64 x.k,.i .i64 x.n,.s x.t,.sl false 167 x.l]) g143d1),(177,rX),(66,(ed 5 9)),(178,spD 5 (fun m=>∃ l:List (List D),(TR 8 l∧1≤l.length∧l.length≤32)∧m=[argS 9 l]) (fun x:EL=>.val true [.i .i64 x.k,.i .i64 x.n,.s x.t,.sl false 167 x.l]) g178),(180,spD 5 (fun m=>∃ a b:EL,m=[argG [.i .i64,.i .i64,.s,.l 167] a.row,argG [.i .i64,.i .i64,.s,.l 167] b.row]) (fun x:EL=>.val true [.i .i64 x.k,.i .i64 x.n,.s x.t,.sl false 167 x.l]) g180),(179,(nil2 mO 167)),(181,kM),(182,spD 5 (fun m=>m=[]) (fun x:EL=>.val true [.i .i64 x.k,.i .i64 x.n,.s x.t,.sl false 167 x.l]) g182),(183,spD 5 (fun m=>m=[]) (fun x:EL=>.val true [.i .i64 x.k,.i .i64 x.n,.s x.t,.sl false 167 x.l]) g183)]) (N:=209) tabT (aa k176 (aa ok35 (aa k143d1 (aa okE177 (aa ok66 (aa k178 (aa k180 (aa okN179 (aa okE181 (aa k182 (aa k183 ae))))))))))) mixed Tryz.func143 rfl Tryz.call143 Tryz.ntmps143 ?_)
 rintro cs args ⟨rows,i,h0,more,ok,hp,he⟩ hwf
 obtain ⟨rfl,rfl⟩:cs=curC 5 rows i h0∧args=more:=by simpa only [jcK,SV.tup.injEq,jcO,true_and,and_true] using he
 obtain ⟨l,⟨hT,hl1,hl2⟩,rfl⟩:=hp
 refine ⟨by simp,?_⟩
 clear he hwf
 rw [Tryz.results143]
 repeat' first
  | (refine And.intro ?_ ?_)
  | (intro h;simp only [reduceCtorEq] at h;done)
  | (intro h;rw [h])
  | (intro h)
 all_goals first
  | exact Or.inr rfl
  | exact absurd (by assumption:decide ((2:Int) < 2)=true) (by decide)
  | (show List.length _=_;rfl)
  | refine ⟨_,_,_,_,?_,⟨by decide,by decide⟩,rfl⟩
  | refine ⟨_,_,_,_,?_,⟨_,⟨hT,hl1,(by omega)⟩,rfl⟩,rfl⟩
  | refine ⟨_,_,_,_,?_,(by first|exact ⟨_,⟨hT,hl1,(by omega)⟩,rfl⟩|exact ⟨_,⟨(TR.nil.add (af (P:=fun t=>t.size≤8) (jcl _) (by intro r hr;simp only [az,jct,jcq,jcs,jco,or_false] at hr;rcases hr with rfl|rfl|rfl <;> (first|decide|exact hT.pick _)) _)).app hT,(by rw [jcm];show 1≤1+l.length;omega),(by rw [jcm];show 1+l.length≤16;omega)⟩,rfl⟩|exact ⟨_,⟨((TR.nil.add (af (P:=fun t=>t.size≤8) (jcl _) (by intro r hr;simp only [az,jct,jcq,jcs,jco,or_false] at hr;rcases hr with rfl|rfl|rfl <;> (first|decide|exact hT.pick _)) _)).add (af (P:=fun t=>t.size≤8) (jcl _) (by intro r hr;simp only [az,jct,jcq,jcs,jco,or_false] at hr;rcases hr with rfl|rfl|rfl <;> (first|decide|exact hT.pick _)) _)).app hT,(by rw [jcm];show 1≤2+l.length;omega),(by rw [jcm];show 2+l.length≤16;omega)⟩,rfl⟩),rfl⟩
  | refine ⟨_,_,_,_,?_,⟨⟨_,_,_,_⟩,⟨_,_,_,_⟩,rfl⟩,rfl⟩
  | refine ⟨_,_,_,_,?_,rfl,rfl⟩
  | (show (0:Int) < (l.length:Int);omega)
  | (show 1+l.length≤maxLen;simp only [maxLen];omega)
  | (show 2+l.length≤maxLen;simp only [maxLen];omega)
  | (show (1+l.length) * 16≤140737488355328;omega)
  | (show (2+l.length) * 16≤140737488355328;omega)
  | exact jc5 _
  | refine ⟨_,_,_,_,?_,(by exact (show eh ((3:Nat):Int) from ⟨by decide,by decide⟩)),rfl⟩
  | exact ⟨_,EL.row _,EL.row _,rfl⟩
  | exact .inl ⟨_,_,rfl⟩
  | exact .inr ⟨_,rfl,_,_,rfl⟩
  | exact ⟨_,rfl⟩
  | (refine ⟨(⟨_,_,_,_⟩,_,_),⟨?_,?_⟩,rfl,rfl,True.intro⟩;rotate_left;focus ((refine ExOk.mk (d:=4) kk6 (aW _ _) (jcl _) (by first|exact (show (0:Nat)≤4 by decide)|exact (show (1:Nat)≤4 by decide)|exact (show (2:Nat)≤4 by decide)|exact (show (3:Nat)≤4 by decide)) rfl ?_;(repeat' (first|with_reducible exact all0|with_reducible refine aR ?_ ?_|refine (q178 _ _ _ _ ?_ ⟨_,⟨hT,hl1,(by omega)⟩,rfl⟩).2.mono (by decide)|refine (q143d1 _ _ _ _ ?_ (by first|exact ⟨_,⟨hT,hl1,(by omega)⟩,rfl⟩|exact ⟨_,⟨(TR.nil.add (af (P:=fun t=>t.size≤8) (jcl _) (by intro r hr;simp only [az,jct,jcq,jcs,jco,or_false] at hr;rcases hr with rfl|rfl|rfl <;> (first|decide|exact hT.pick _)) _)).app hT,(by rw [jcm];show 1≤1+l.length;omega),(by rw [jcm];show 1+l.length≤16;omega)⟩,rfl⟩|exact ⟨_,⟨((TR.nil.add (af (P:=fun t=>t.size≤8) (jcl _) (by intro r hr;simp only [az,jct,jcq,jcs,jco,or_false] at hr;rcases hr with rfl|rfl|rfl <;> (first|decide|exact hT.pick _)) _)).add (af (P:=fun t=>t.size≤8) (jcl _) (by intro r hr;simp only [az,jct,jcq,jcs,jco,or_false] at hr;rcases hr with rfl|rfl|rfl <;> (first|decide|exact hT.pick _)) _)).app hT,(by rw [jcm];show 1≤2+l.length;omega),(by rw [jcm];show 2+l.length≤16;omega)⟩,rfl⟩)).2.mono (by decide)|refine (q182 _ _ _ _ ?_ rfl).2.mono (by decide)|refine (q183 _ _ _ _ ?_ rfl).2.mono (by decide)|exact (ExOk.mk (d:=0) kk1 (ar (ao ⟨by decide,by decide⟩)) (jcl _) (jcl _) rfl all0).mono (by decide)|exact (ExOk.mk (d:=0) kk1 (aW _ _) (jcl _) (jcl _) rfl all0).mono (by decide)|exact (ExOk.mk (d:=0) kk2 kk0 (af (P:=fun t=>t.size≤8) (jcl _) (by intro r hr;simp only [az,jct,jcq,jcs,jco,or_false] at hr;rcases hr with rfl|rfl|rfl <;> (first|decide|exact hT.pick _)) _) (jcl _) rfl all0).mono (by decide)|refine (q180 _ _ _ _ (by repeat (first|exact ok|exact ok1|exact ok2|refine aj ?_|refine (q176 _ _ _ _ ?_ ⟨_,⟨hT,hl1,(by omega)⟩,rfl⟩).1|refine (q143d1 _ _ _ _ ?_ (by first|exact ⟨_,⟨hT,hl1,(by omega)⟩,rfl⟩|exact ⟨_,⟨(TR.nil.add (af (P:=fun t=>t.size≤8) (jcl _) (by intro r hr;simp only [az,jct,jcq,jcs,jco,or_false] at hr;rcases hr with rfl|rfl|rfl <;> (first|decide|exact hT.pick _)) _)).app hT,(by rw [jcm];show 1≤1+l.length;omega),(by rw [jcm];show 1+l.length≤16;omega)⟩,rfl⟩|exact ⟨_,⟨((TR.nil.add (af (P:=fun t=>t.size≤8) (jcl _) (by intro r hr;simp only [az,jct,jcq,jcs,jco,or_false] at hr;rcases hr with rfl|rfl|rfl <;> (first|decide|exact hT.pick _)) _)).add (af (P:=fun t=>t.size≤8) (jcl _) (by intro r hr;simp only [az,jct,jcq,jcs,jco,or_false] at hr;rcases hr with rfl|rfl|rfl <;> (first|decide|exact hT.pick _)) _)).app hT,(by rw [jcm];show 1≤2+l.length;omega),(by rw [jcm];show 2+l.length≤16;omega)⟩,rfl⟩)).1|refine (q178 _ _ _ _ ?_ ⟨_,⟨hT,hl1,(by omega)⟩,rfl⟩).1|refine (q180 _ _ _ _ ?_ ⟨⟨_,_,_,_⟩,⟨_,_,_,_⟩,rfl⟩).1|refine (q182 _ _ _ _ ?_ rfl).1|refine (q183 _ _ _ _ ?_ rfl).1)) ⟨⟨_,_,_,_⟩,⟨_,_,_,_⟩,rfl⟩).2 (ExOk _) (all2 ?_ ?_)|refine ExOk.mk (d:=3) kk5 kk0 (jdm rfl) (by first|exact (show (0:Nat)≤4 by decide)|exact (show (1:Nat)≤4 by decide)|exact (show (2:Nat)≤4 by decide)|exact (show (3:Nat)≤4 by decide)) rfl ?_|refine aR ?_ ?_|exact all0)))))
  | (refine ⟨(⟨_,_,_,_⟩,_,_),⟨?_,?_⟩,rfl,rfl,True.intro⟩;rotate_left;focus ((refine ExOk.mk (d:=4) kk7 kk0 (af (P:=fun t=>t.size≤8) (jcl _) (by intro r hr;simp only [az,jct,jcq,jcs,jco,or_false] at hr;rcases hr with rfl|rfl|rfl <;> (first|decide|exact hT.pick _)) _) (by first|exact (show (0:Nat)≤4 by decide)|exact (show (1:Nat)≤4 by decide)|exact (show (2:Nat)≤4 by decide)|exact (show (3:Nat)≤4 by decide)) rfl ?_;(repeat' (first|with_reducible exact all0|with_reducible refine aR ?_ ?_|refine (q178 _ _ _ _ ?_ ⟨_,⟨hT,hl1,(by omega)⟩,rfl⟩).2.mono (by decide)|refine (q143d1 _ _ _ _ ?_ (by first|exact ⟨_,⟨hT,hl1,(by omega)⟩,rfl⟩|exact ⟨_,⟨(TR.nil.add (af (P:=fun t=>t.size≤8) (jcl _) (by intro r hr;simp only [az,jct,jcq,jcs,jco,or_false] at hr;rcases hr with rfl|rfl|rfl <;> (first|decide|exact hT.pick _)) _)).app hT,(by rw [jcm];show 1≤1+l.length;omega),(by rw [jcm];show 1+l.length≤16;omega)⟩,rfl⟩|exact ⟨_,⟨((TR.nil.add (af (P:=fun t=>t.size≤8) (jcl _) (by intro r hr;simp only [az,jct,jcq,jcs,jco,or_false] at hr;rcases hr with rfl|rfl|rfl <;> (first|decide|exact hT.pick _)) _)).add (af (P:=fun t=>t.size≤8) (jcl _) (by intro r hr;simp only [az,jct,jcq,jcs,jco,or_false] at hr;rcases hr with rfl|rfl|rfl <;> (first|decide|exact hT.pick _)) _)).app hT,(by rw [jcm];show 1≤2+l.length;omega),(by rw [jcm];show 2+l.length≤16;omega)⟩,rfl⟩)).2.mono (by decide)|refine (q182 _ _ _ _ ?_ rfl).2.mono (by decide)|refine (q183 _ _ _ _ ?_ rfl).2.mono (by decide)|exact (ExOk.mk (d:=0) kk1 (ar (ao ⟨by decide,by decide⟩)) (jcl _) (jcl _) rfl all0).mono (by decide)|exact (ExOk.mk (d:=0) kk1 (aW _ _) (jcl _) (jcl _) rfl all0).mono (by decide)|exact (ExOk.mk (d:=0) kk2 kk0 (af (P:=fun t=>t.size≤8) (jcl _) (by intro r hr;simp only [az,jct,jcq,jcs,jco,or_false] at hr;rcases hr with rfl|rfl|rfl <;> (first|decide|exact hT.pick _)) _) (jcl _) rfl all0).mono (by decide)|refine (q180 _ _ _ _ (by repeat (first|exact ok|exact ok1|exact ok2|refine aj ?_|refine (q176 _ _ _ _ ?_ ⟨_,⟨hT,hl1,(by omega)⟩,rfl⟩).1|refine (q143d1 _ _ _ _ ?_ (by first|exact ⟨_,⟨hT,hl1,(by omega)⟩,rfl⟩|exact ⟨_,⟨(TR.nil.add (af (P:=fun t=>t.size≤8) (jcl _) (by intro r hr;simp only [az,jct,jcq,jcs,jco,or_false] at hr;rcases hr with rfl|rfl|rfl <;> (first|decide|exact hT.pick _)) _)).app hT,(by rw [jcm];show 1≤1+l.length;omega),(by rw [jcm];show 1+l.length≤16;omega)⟩,rfl⟩|exact ⟨_,⟨((TR.nil.add (af (P:=fun t=>t.size≤8) (jcl _) (by intro r hr;simp only [az,jct,jcq,jcs,jco,or_false] at hr;rcases hr with rfl|rfl|rfl <;> (first|decide|exact hT.pick _)) _)).add (af (P:=fun t=>t.size≤8) (jcl _) (by intro r hr;simp only [az,jct,jcq,jcs,jco,or_false] at hr;rcases hr with rfl|rfl|rfl <;> (first|decide|exact hT.pick _)) _)).app hT,(by rw [jcm];show 1≤2+l.length;omega),(by rw [jcm];show 2+l.length≤16;omega)⟩,rfl⟩)).1|refine (q178 _ _ _ _ ?_ ⟨_,⟨hT,hl1,(by omega)⟩,rfl⟩).1|refine (q180 _ _ _ _ ?_ ⟨⟨_,_,_,_⟩,⟨_,_,_,_⟩,rfl⟩).1|refine (q182 _ _ _ _ ?_ rfl).1|refine (q183 _ _ _ _ ?_ rfl).1)) ⟨⟨_,_,_,_⟩,⟨_,_,_,_⟩,rfl⟩).2 (ExOk _) (all2 ?_ ?_)|refine ExOk.mk (d:=3) kk5 kk0 (jdm rfl) (by first|exact (show (0:Nat)≤4 by decide)|exact (show (1:Nat)≤4 by decide)|exact (show (2:Nat)≤4 by decide)|exact (show (3:Nat)≤4 by decide)) rfl ?_|refine aR ?_ ?_|exact all0)))))
  | (refine ⟨(⟨_,_,_,_⟩,_,_),⟨?_,?_⟩,rfl,rfl,True.intro⟩;rotate_left;focus ((refine ExOk.mk (d:=4) kk9 kk0 (af (P:=fun t=>t.size≤8) (jcl _) (by intro r hr;simp only [az,jct,jcq,jcs,jco,or_false] at hr;rcases hr with rfl|rfl|rfl <;> (first|decide|exact hT.pick _)) _) (by first|exact (show (0:Nat)≤4 by decide)|exact (show (1:Nat)≤4 by decide)|exact (show (2:Nat)≤4 by decide)|exact (show (3:Nat)≤4 by decide)) rfl ?_;(repeat' (first|with_reducible exact all0|with_reducible refine aR ?_ ?_|refine (q178 _ _ _ _ ?_ ⟨_,⟨hT,hl1,(by omega)⟩,rfl⟩).2.mono (by decide)|refine (q143d1 _ _ _ _ ?_ (by first|exact ⟨_,⟨hT,hl1,(by omega)⟩,rfl⟩|exact ⟨_,⟨(TR.nil.add (af (P:=fun t=>t.size≤8) (jcl _) (by intro r hr;simp only [az,jct,jcq,jcs,jco,or_false] at hr;rcases hr with rfl|rfl|rfl <;> (first|decide|exact hT.pick _)) _)).app hT,(by rw [jcm];show 1≤1+l.length;omega),(by rw [jcm];show 1+l.length≤16;omega)⟩,rfl⟩|exact ⟨_,⟨((TR.nil.add (af (P:=fun t=>t.size≤8) (jcl _) (by intro r hr;simp only [az,jct,jcq,jcs,jco,or_false] at hr;rcases hr with rfl|rfl|rfl <;> (first|decide|exact hT.pick _)) _)).add (af (P:=fun t=>t.size≤8) (jcl _) (by intro r hr;simp only [az,jct,jcq,jcs,jco,or_false] at hr;rcases hr with rfl|rfl|rfl <;> (first|decide|exact hT.pick _)) _)).app hT,(by rw [jcm];show 1≤2+l.length;omega),(by rw [jcm];show 2+l.length≤16;omega)⟩,rfl⟩)).2.mono (by decide)|refine (q182 _ _ _ _ ?_ rfl).2.mono (by decide)|refine (q183 _ _ _ _ ?_ rfl).2.mono (by decide)|exact (ExOk.mk (d:=0) kk1 (ar (ao ⟨by decide,by decide⟩)) (jcl _) (jcl _) rfl all0).mono (by decide)|exact (ExOk.mk (d:=0) kk1 (aW _ _) (jcl _) (jcl _) rfl all0).mono (by decide)|exact (ExOk.mk (d:=0) kk2 kk0 (af (P:=fun t=>t.size≤8) (jcl _) (by intro r hr;simp only [az,jct,jcq,jcs,jco,or_false] at hr;rcases hr with rfl|rfl|rfl <;> (first|decide|exact hT.pick _)) _) (jcl _) rfl all0).mono (by decide)|refine (q180 _ _ _ _ (by repeat (first|exact ok|exact ok1|exact ok2|refine aj ?_|refine (q176 _ _ _ _ ?_ ⟨_,⟨hT,hl1,(by omega)⟩,rfl⟩).1|refine (q143d1 _ _ _ _ ?_ (by first|exact ⟨_,⟨hT,hl1,(by omega)⟩,rfl⟩|exact ⟨_,⟨(TR.nil.add (af (P:=fun t=>t.size≤8) (jcl _) (by intro r hr;simp only [az,jct,jcq,jcs,jco,or_false] at hr;rcases hr with rfl|rfl|rfl <;> (first|decide|exact hT.pick _)) _)).app hT,(by rw [jcm];show 1≤1+l.length;omega),(by rw [jcm];show 1+l.length≤16;omega)⟩,rfl⟩|exact ⟨_,⟨((TR.nil.add (af (P:=fun t=>t.size≤8) (jcl _) (by intro r hr;simp only [az,jct,jcq,jcs,jco,or_false] at hr;rcases hr with rfl|rfl|rfl <;> (first|decide|exact hT.pick _)) _)).add (af (P:=fun t=>t.size≤8) (jcl _) (by intro r hr;simp only [az,jct,jcq,jcs,jco,or_false] at hr;rcases hr with rfl|rfl|rfl <;> (first|decide|exact hT.pick _)) _)).app hT,(by rw [jcm];show 1≤2+l.length;omega),(by rw [jcm];show 2+l.length≤16;omega)⟩,rfl⟩)).1|refine (q178 _ _ _ _ ?_ ⟨_,⟨hT,hl1,(by omega)⟩,rfl⟩).1|refine (q180 _ _ _ _ ?_ ⟨⟨_,_,_,_⟩,⟨_,_,_,_⟩,rfl⟩).1|refine (q182 _ _ _ _ ?_ rfl).1|refine (q183 _ _ _ _ ?_ rfl).1)) ⟨⟨_,_,_,_⟩,⟨_,_,_,_⟩,rfl⟩).2 (ExOk _) (all2 ?_ ?_)|refine ExOk.mk (d:=3) kk5 kk0 (jdm rfl) (by first|exact (show (0:Nat)≤4 by decide)|exact (show (1:Nat)≤4 by decide)|exact (show (2:Nat)≤4 by decide)|exact (show (3:Nat)≤4 by decide)) rfl ?_|refine aR ?_ ?_|exact all0)))))
  | (refine ⟨(⟨_,_,_,_⟩,_,_),⟨?_,?_⟩,rfl,rfl,True.intro⟩;rotate_left;focus ((refine ExOk.mk (d:=4) kk8 kk0 (jcl _) (by first|exact (show (0:Nat)≤4 by decide)|exact (show (1:Nat)≤4 by decide)|exact (show (2:Nat)≤4 by decide)|exact (show (3:Nat)≤4 by decide)) rfl ?_;(repeat' (first|with_reducible exact all0|with_reducible refine aR ?_ ?_|refine (q178 _ _ _ _ ?_ ⟨_,⟨hT,hl1,(by omega)⟩,rfl⟩).2.mono (by decide)|refine (q143d1 _ _ _ _ ?_ (by first|exact ⟨_,⟨hT,hl1,(by omega)⟩,rfl⟩|exact ⟨_,⟨(TR.nil.add (af (P:=fun t=>t.size≤8) (jcl _) (by intro r hr;simp only [az,jct,jcq,jcs,jco,or_false] at hr;rcases hr with rfl|rfl|rfl <;> (first|decide|exact hT.pick _)) _)).app hT,(by rw [jcm];show 1≤1+l.length;omega),(by rw [jcm];show 1+l.length≤16;omega)⟩,rfl⟩|exact ⟨_,⟨((TR.nil.add (af (P:=fun t=>t.size≤8) (jcl _) (by intro r hr;simp only [az,jct,jcq,jcs,jco,or_false] at hr;rcases hr with rfl|rfl|rfl <;> (first|decide|exact hT.pick _)) _)).add (af (P:=fun t=>t.size≤8) (jcl _) (by intro r hr;simp only [az,jct,jcq,jcs,jco,or_false] at hr;rcases hr with rfl|rfl|rfl <;> (first|decide|exact hT.pick _)) _)).app hT,(by rw [jcm];show 1≤2+l.length;omega),(by rw [jcm];show 2+l.length≤16;omega)⟩,rfl⟩)).2.mono (by decide)|refine (q182 _ _ _ _ ?_ rfl).2.mono (by decide)|refine (q183 _ _ _ _ ?_ rfl).2.mono (by decide)|exact (ExOk.mk (d:=0) kk1 (ar (ao ⟨by decide,by decide⟩)) (jcl _) (jcl _) rfl all0).mono (by decide)|exact (ExOk.mk (d:=0) kk1 (aW _ _) (jcl _) (jcl _) rfl all0).mono (by decide)|exact (ExOk.mk (d:=0) kk2 kk0 (af (P:=fun t=>t.size≤8) (jcl _) (by intro r hr;simp only [az,jct,jcq,jcs,jco,or_false] at hr;rcases hr with rfl|rfl|rfl <;> (first|decide|exact hT.pick _)) _) (jcl _) rfl all0).mono (by decide)|refine (q180 _ _ _ _ (by repeat (first|exact ok|exact ok1|exact ok2|refine aj ?_|refine (q176 _ _ _ _ ?_ ⟨_,⟨hT,hl1,(by omega)⟩,rfl⟩).1|refine (q143d1 _ _ _ _ ?_ (by first|exact ⟨_,⟨hT,hl1,(by omega)⟩,rfl⟩|exact ⟨_,⟨(TR.nil.add (af (P:=fun t=>t.size≤8) (jcl _) (by intro r hr;simp only [az,jct,jcq,jcs,jco,or_false] at hr;rcases hr with rfl|rfl|rfl <;> (first|decide|exact hT.pick _)) _)).app hT,(by rw [jcm];show 1≤1+l.length;omega),(by rw [jcm];show 1+l.length≤16;omega)⟩,rfl⟩|exact ⟨_,⟨((TR.nil.add (af (P:=fun t=>t.size≤8) (jcl _) (by intro r hr;simp only [az,jct,jcq,jcs,jco,or_false] at hr;rcases hr with rfl|rfl|rfl <;> (first|decide|exact hT.pick _)) _)).add (af (P:=fun t=>t.size≤8) (jcl _) (by intro r hr;simp only [az,jct,jcq,jcs,jco,or_false] at hr;rcases hr with rfl|rfl|rfl <;> (first|decide|exact hT.pick _)) _)).app hT,(by rw [jcm];show 1≤2+l.length;omega),(by rw [jcm];show 2+l.length≤16;omega)⟩,rfl⟩)).1|refine (q178 _ _ _ _ ?_ ⟨_,⟨hT,hl1,(by omega)⟩,rfl⟩).1|refine (q180 _ _ _ _ ?_ ⟨⟨_,_,_,_⟩,⟨_,_,_,_⟩,rfl⟩).1|refine (q182 _ _ _ _ ?_ rfl).1|refine (q183 _ _ _ _ ?_ rfl).1)) ⟨⟨_,_,_,_⟩,⟨_,_,_,_⟩,rfl⟩).2 (ExOk _) (all2 ?_ ?_)|refine ExOk.mk (d:=3) kk5 kk0 (jdm rfl) (by first|exact (show (0:Nat)≤4 by decide)|exact (show (1:Nat)≤4 by decide)|exact (show (2:Nat)≤4 by decide)|exact (show (3:Nat)≤4 by decide)) rfl ?_|refine aR ?_ ?_|exact all0)))))
  | (refine ⟨(⟨_,_,_,_⟩,_,_),⟨?_,?_⟩,rfl,rfl,True.intro⟩;rotate_left;focus (refine (q178 _ _ _ _ ?_ ⟨_,⟨hT,hl1,(by omega)⟩,rfl⟩).2.mono (by decide)))
  | (refine ⟨(⟨_,_,_,_⟩,_,_),⟨?_,?_⟩,rfl,rfl,True.intro⟩;rotate_left;focus ((refine ExOk.mk (d:=4) kk5 kk0 (jdm rfl) (by first|exact (show (0:Nat)≤4 by decide)|exact (show (1:Nat)≤4 by decide)|exact (show (2:Nat)≤4 by decide)|exact (show (3:Nat)≤4 by decide)) rfl ?_;(repeat' (first|with_reducible exact all0|with_reducible refine aR ?_ ?_|refine (q178 _ _ _ _ ?_ ⟨_,⟨hT,hl1,(by omega)⟩,rfl⟩).2.mono (by decide)|refine (q143d1 _ _ _ _ ?_ (by first|exact ⟨_,⟨hT,hl1,(by omega)⟩,rfl⟩|exact ⟨_,⟨(TR.nil.add (af (P:=fun t=>t.size≤8) (jcl _) (by intro r hr;simp only [az,jct,jcq,jcs,jco,or_false] at hr;rcases hr with rfl|rfl|rfl <;> (first|decide|exact hT.pick _)) _)).app hT,(by rw [jcm];show 1≤1+l.length;omega),(by rw [jcm];show 1+l.length≤16;omega)⟩,rfl⟩|exact ⟨_,⟨((TR.nil.add (af (P:=fun t=>t.size≤8) (jcl _) (by intro r hr;simp only [az,jct,jcq,jcs,jco,or_false] at hr;rcases hr with rfl|rfl|rfl <;> (first|decide|exact hT.pick _)) _)).add (af (P:=fun t=>t.size≤8) (jcl _) (by intro r hr;simp only [az,jct,jcq,jcs,jco,or_false] at hr;rcases hr with rfl|rfl|rfl <;> (first|decide|exact hT.pick _)) _)).app hT,(by rw [jcm];show 1≤2+l.length;omega),(by rw [jcm];show 2+l.length≤16;omega)⟩,rfl⟩)).2.mono (by decide)|refine (q182 _ _ _ _ ?_ rfl).2.mono (by decide)|refine (q183 _ _ _ _ ?_ rfl).2.mono (by decide)|exact (ExOk.mk (d:=0) kk1 (ar (ao ⟨by decide,by decide⟩)) (jcl _) (jcl _) rfl all0).mono (by decide)|exact (ExOk.mk (d:=0) kk1 (aW _ _) (jcl _) (jcl _) rfl all0).mono (by decide)|exact (ExOk.mk (d:=0) kk2 kk0 (af (P:=fun t=>t.size≤8) (jcl _) (by intro r hr;simp only [az,jct,jcq,jcs,jco,or_false] at hr;rcases hr with rfl|rfl|rfl <;> (first|decide|exact hT.pick _)) _) (jcl _) rfl all0).mono (by decide)|refine (q180 _ _ _ _ (by repeat (first|exact ok|exact ok1|exact ok2|refine aj ?_|refine (q176 _ _ _ _ ?_ ⟨_,⟨hT,hl1,(by omega)⟩,rfl⟩).1|refine (q143d1 _ _ _ _ ?_ (by first|exact ⟨_,⟨hT,hl1,(by omega)⟩,rfl⟩|exact ⟨_,⟨(TR.nil.add (af (P:=fun t=>t.size≤8) (jcl _) (by intro r hr;simp only [az,jct,jcq,jcs,jco,or_false] at hr;rcases hr with rfl|rfl|rfl <;> (first|decide|exact hT.pick _)) _)).app hT,(by rw [jcm];show 1≤1+l.length;omega),(by rw [jcm];show 1+l.length≤16;omega)⟩,rfl⟩|exact ⟨_,⟨((TR.nil.add (af (P:=fun t=>t.size≤8) (jcl _) (by intro r hr;simp only [az,jct,jcq,jcs,jco,or_false] at hr;rcases hr with rfl|rfl|rfl <;> (first|decide|exact hT.pick _)) _)).add (af (P:=fun t=>t.size≤8) (jcl _) (by intro r hr;simp only [az,jct,jcq,jcs,jco,or_false] at hr;rcases hr with rfl|rfl|rfl <;> (first|decide|exact hT.pick _)) _)).app hT,(by rw [jcm];show 1≤2+l.length;omega),(by rw [jcm];show 2+l.length≤16;omega)⟩,rfl⟩)).1|refine (q178 _ _ _ _ ?_ ⟨_,⟨hT,hl1,(by omega)⟩,rfl⟩).1|refine (q180 _ _ _ _ ?_ ⟨⟨_,_,_,_⟩,⟨_,_,_,_⟩,rfl⟩).1|refine (q182 _ _ _ _ ?_ rfl).1|refine (q183 _ _ _ _ ?_ rfl).1)) ⟨⟨_,_,_,_⟩,⟨_,_,_,_⟩,rfl⟩).2 (ExOk _) (all2 ?_ ?_)|refine ExOk.mk (d:=3) kk5 kk0 (jdm rfl) (by first|exact (show (0:Nat)≤4 by decide)|exact (show (1:Nat)≤4 by decide)|exact (show (2:Nat)≤4 by decide)|exact (show (3:Nat)≤4 by decide)) rfl ?_|refine aR ?_ ?_|exact all0)))))
  | (refine ⟨(⟨_,_,_,_⟩,_,_),⟨?_,?_⟩,rfl,rfl,True.intro⟩;rotate_left;focus ((refine ExOk.mk (d:=4) kk5 kk0 (af (P:=fun t=>t.size≤8) (jcl _) (by intro r hr;simp only [az,jct,jcq,jcs,jco,or_false] at hr;rcases hr with rfl|rfl <;> (first|decide|exact hT.pick _)) _) (by first|exact (show (0:Nat)≤4 by decide)|exact (show (1:Nat)≤4 by decide)|exact (show (2:Nat)≤4 by decide)|exact (show (3:Nat)≤4 by decide)) rfl ?_;(repeat' (first|with_reducible exact all0|with_reducible refine aR ?_ ?_|refine (q178 _ _ _ _ ?_ ⟨_,⟨hT,hl1,(by omega)⟩,rfl⟩).2.mono (by decide)|refine (q143d1 _ _ _ _ ?_ (by first|exact ⟨_,⟨hT,hl1,(by omega)⟩,rfl⟩|exact ⟨_,⟨(TR.nil.add (af (P:=fun t=>t.size≤8) (jcl _) (by intro r hr;simp only [az,jct,jcq,jcs,jco,or_false] at hr;rcases hr with rfl|rfl|rfl <;> (first|decide|exact hT.pick _)) _)).app hT,(by rw [jcm];show 1≤1+l.length;omega),(by rw [jcm];show 1+l.length≤16;omega)⟩,rfl⟩|exact ⟨_,⟨((TR.nil.add (af (P:=fun t=>t.size≤8) (jcl _) (by intro r hr;simp only [az,jct,jcq,jcs,jco,or_false] at hr;rcases hr with rfl|rfl|rfl <;> (first|decide|exact hT.pick _)) _)).add (af (P:=fun t=>t.size≤8) (jcl _) (by intro r hr;simp only [az,jct,jcq,jcs,jco,or_false] at hr;rcases hr with rfl|rfl|rfl <;> (first|decide|exact hT.pick _)) _)).app hT,(by rw [jcm];show 1≤2+l.length;omega),(by rw [jcm];show 2+l.length≤16;omega)⟩,rfl⟩)).2.mono (by decide)|refine (q182 _ _ _ _ ?_ rfl).2.mono (by decide)|refine (q183 _ _ _ _ ?_ rfl).2.mono (by decide)|exact (ExOk.mk (d:=0) kk1 (ar (ao ⟨by decide,by decide⟩)) (jcl _) (jcl _) rfl all0).mono (by decide)|exact (ExOk.mk (d:=0) kk1 (aW _ _) (jcl _) (jcl _) rfl all0).mono (by decide)|exact (ExOk.mk (d:=0) kk2 kk0 (af (P:=fun t=>t.size≤8) (jcl _) (by intro r hr;simp only [az,jct,jcq,jcs,jco,or_false] at hr;rcases hr with rfl|rfl|rfl <;> (first|decide|exact hT.pick _)) _) (jcl _) rfl all0).mono (by decide)|refine (q180 _ _ _ _ (by repeat (first|exact ok|exact ok1|exact ok2|refine aj ?_|refine (q176 _ _ _ _ ?_ ⟨_,⟨hT,hl1,(by omega)⟩,rfl⟩).1|refine (q143d1 _ _ _ _ ?_ (by first|exact ⟨_,⟨hT,hl1,(by omega)⟩,rfl⟩|exact ⟨_,⟨(TR.nil.add (af (P:=fun t=>t.size≤8) (jcl _) (by intro r hr;simp only [az,jct,jcq,jcs,jco,or_false] at hr;rcases hr with rfl|rfl|rfl <;> (first|decide|exact hT.pick _)) _)).app hT,(by rw [jcm];show 1≤1+l.length;omega),(by rw [jcm];show 1+l.length≤16;omega)⟩,rfl⟩|exact ⟨_,⟨((TR.nil.add (af (P:=fun t=>t.size≤8) (jcl _) (by intro r hr;simp only [az,jct,jcq,jcs,jco,or_false] at hr;rcases hr with rfl|rfl|rfl <;> (first|decide|exact hT.pick _)) _)).add (af (P:=fun t=>t.size≤8) (jcl _) (by intro r hr;simp only [az,jct,jcq,jcs,jco,or_false] at hr;rcases hr with rfl|rfl|rfl <;> (first|decide|exact hT.pick _)) _)).app hT,(by rw [jcm];show 1≤2+l.length;omega),(by rw [jcm];show 2+l.length≤16;omega)⟩,rfl⟩)).1|refine (q178 _ _ _ _ ?_ ⟨_,⟨hT,hl1,(by omega)⟩,rfl⟩).1|refine (q180 _ _ _ _ ?_ ⟨⟨_,_,_,_⟩,⟨_,_,_,_⟩,rfl⟩).1|refine (q182 _ _ _ _ ?_ rfl).1|refine (q183 _ _ _ _ ?_ rfl).1)) ⟨⟨_,_,_,_⟩,⟨_,_,_,_⟩,rfl⟩).2 (ExOk _) (all2 ?_ ?_)|refine ExOk.mk (d:=3) kk5 kk0 (jdm rfl) (by first|exact (show (0:Nat)≤4 by decide)|exact (show (1:Nat)≤4 by decide)|exact (show (2:Nat)≤4 by decide)|exact (show (3:Nat)≤4 by decide)) rfl ?_|refine aR ?_ ?_|exact all0)))))
  | (refine ⟨(⟨_,_,_,_⟩,_,_),⟨?_,?_⟩,rfl,rfl,True.intro⟩;rotate_left;focus ((refine ExOk.mk (d:=4) kk5 kk0 (af (P:=fun t=>t.size≤8) (jcl _) (by intro r hr;simp only [az,jct,jcq,jcs,jco,or_false] at hr;rcases hr with rfl|rfl|rfl|rfl <;> (first|decide|exact hT.pick _)) _) (by first|exact (show (0:Nat)≤4 by decide)|exact (show (1:Nat)≤4 by decide)|exact (show (2:Nat)≤4 by decide)|exact (show (3:Nat)≤4 by decide)) rfl ?_;(repeat' (first|with_reducible exact all0|with_reducible refine aR ?_ ?_|refine (q178 _ _ _ _ ?_ ⟨_,⟨hT,hl1,(by omega)⟩,rfl⟩).2.mono (by decide)|refine (q143d1 _ _ _ _ ?_ (by first|exact ⟨_,⟨hT,hl1,(by omega)⟩,rfl⟩|exact ⟨_,⟨(TR.nil.add (af (P:=fun t=>t.size≤8) (jcl _) (by intro r hr;simp only [az,jct,jcq,jcs,jco,or_false] at hr;rcases hr with rfl|rfl|rfl <;> (first|decide|exact hT.pick _)) _)).app hT,(by rw [jcm];show 1≤1+l.length;omega),(by rw [jcm];show 1+l.length≤16;omega)⟩,rfl⟩|exact ⟨_,⟨((TR.nil.add (af (P:=fun t=>t.size≤8) (jcl _) (by intro r hr;simp only [az,jct,jcq,jcs,jco,or_false] at hr;rcases hr with rfl|rfl|rfl <;> (first|decide|exact hT.pick _)) _)).add (af (P:=fun t=>t.size≤8) (jcl _) (by intro r hr;simp only [az,jct,jcq,jcs,jco,or_false] at hr;rcases hr with rfl|rfl|rfl <;> (first|decide|exact hT.pick _)) _)).app hT,(by rw [jcm];show 1≤2+l.length;omega),(by rw [jcm];show 2+l.length≤16;omega)⟩,rfl⟩)).2.mono (by decide)|refine (q182 _ _ _ _ ?_ rfl).2.mono (by decide)|refine (q183 _ _ _ _ ?_ rfl).2.mono (by decide)|exact (ExOk.mk (d:=0) kk1 (ar (ao ⟨by decide,by decide⟩)) (jcl _) (jcl _) rfl all0).mono (by decide)|exact (ExOk.mk (d:=0) kk1 (aW _ _) (jcl _) (jcl _) rfl all0).mono (by decide)|exact (ExOk.mk (d:=0) kk2 kk0 (af (P:=fun t=>t.size≤8) (jcl _) (by intro r hr;simp only [az,jct,jcq,jcs,jco,or_false] at hr;rcases hr with rfl|rfl|rfl <;> (first|decide|exact hT.pick _)) _) (jcl _) rfl all0).mono (by decide)|refine (q180 _ _ _ _ (by repeat (first|exact ok|exact ok1|exact ok2|refine aj ?_|refine (q176 _ _ _ _ ?_ ⟨_,⟨hT,hl1,(by omega)⟩,rfl⟩).1|refine (q143d1 _ _ _ _ ?_ (by first|exact ⟨_,⟨hT,hl1,(by omega)⟩,rfl⟩|exact ⟨_,⟨(TR.nil.add (af (P:=fun t=>t.size≤8) (jcl _) (by intro r hr;simp only [az,jct,jcq,jcs,jco,or_false] at hr;rcases hr with rfl|rfl|rfl <;> (first|decide|exact hT.pick _)) _)).app hT,(by rw [jcm];show 1≤1+l.length;omega),(by rw [jcm];show 1+l.length≤16;omega)⟩,rfl⟩|exact ⟨_,⟨((TR.nil.add (af (P:=fun t=>t.size≤8) (jcl _) (by intro r hr;simp only [az,jct,jcq,jcs,jco,or_false] at hr;rcases hr with rfl|rfl|rfl <;> (first|decide|exact hT.pick _)) _)).add (af (P:=fun t=>t.size≤8) (jcl _) (by intro r hr;simp only [az,jct,jcq,jcs,jco,or_false] at hr;rcases hr with rfl|rfl|rfl <;> (first|decide|exact hT.pick _)) _)).app hT,(by rw [jcm];show 1≤2+l.length;omega),(by rw [jcm];show 2+l.length≤16;omega)⟩,rfl⟩)).1|refine (q178 _ _ _ _ ?_ ⟨_,⟨hT,hl1,(by omega)⟩,rfl⟩).1|refine (q180 _ _ _ _ ?_ ⟨⟨_,_,_,_⟩,⟨_,_,_,_⟩,rfl⟩).1|refine (q182 _ _ _ _ ?_ rfl).1|refine (q183 _ _ _ _ ?_ rfl).1)) ⟨⟨_,_,_,_⟩,⟨_,_,_,_⟩,rfl⟩).2 (ExOk _) (all2 ?_ ?_)|refine ExOk.mk (d:=3) kk5 kk0 (jdm rfl) (by first|exact (show (0:Nat)≤4 by decide)|exact (show (1:Nat)≤4 by decide)|exact (show (2:Nat)≤4 by decide)|exact (show (3:Nat)≤4 by decide)) rfl ?_|refine aR ?_ ?_|exact all0)))))
  | (refine ⟨(⟨_,_,_,_⟩,_,_),⟨?_,?_⟩,rfl,rfl,True.intro⟩;rotate_left;focus ((refine ((q180 _ _ _ _ (by repeat (first|exact ok|exact ok1|exact ok2|refine aj ?_|refine (q176 _ _ _ _ ?_ ⟨_,⟨hT,hl1,(by omega)⟩,rfl⟩).1|refine (q143d1 _ _ _ _ ?_ (by first|exact ⟨_,⟨hT,hl1,(by omega)⟩,rfl⟩|exact ⟨_,⟨(TR.nil.add (af (P:=fun t=>t.size≤8) (jcl _) (by intro r hr;simp only [az,jct,jcq,jcs,jco,or_false] at hr;rcases hr with rfl|rfl|rfl <;> (first|decide|exact hT.pick _)) _)).app hT,(by rw [jcm];show 1≤1+l.length;omega),(by rw [jcm];show 1+l.length≤16;omega)⟩,rfl⟩|exact ⟨_,⟨((TR.nil.add (af (P:=fun t=>t.size≤8) (jcl _) (by intro r hr;simp only [az,jct,jcq,jcs,jco,or_false] at hr;rcases hr with rfl|rfl|rfl <;> (first|decide|exact hT.pick _)) _)).add (af (P:=fun t=>t.size≤8) (jcl _) (by intro r hr;simp only [az,jct,jcq,jcs,jco,or_false] at hr;rcases hr with rfl|rfl|rfl <;> (first|decide|exact hT.pick _)) _)).app hT,(by rw [jcm];show 1≤2+l.length;omega),(by rw [jcm];show 2+l.length≤16;omega)⟩,rfl⟩)).1|refine (q178 _ _ _ _ ?_ ⟨_,⟨hT,hl1,(by omega)⟩,rfl⟩).1|refine (q180 _ _ _ _ ?_ ⟨⟨_,_,_,_⟩,⟨_,_,_,_⟩,rfl⟩).1|refine (q182 _ _ _ _ ?_ rfl).1|refine (q183 _ _ _ _ ?_ rfl).1)) ⟨⟨_,_,_,_⟩,⟨_,_,_,_⟩,rfl⟩).2 (ExOk _) (all2 ?_ ?_):ExOk 4 _).mono (by decide);(repeat' (first|with_reducible exact all0|with_reducible refine aR ?_ ?_|refine (q178 _ _ _ _ ?_ ⟨_,⟨hT,hl1,(by omega)⟩,rfl⟩).2.mono (by decide)|refine (q143d1 _ _ _ _ ?_ (by first|exact ⟨_,⟨hT,hl1,(by omega)⟩,rfl⟩|exact ⟨_,⟨(TR.nil.add (af (P:=fun t=>t.size≤8) (jcl _) (by intro r hr;simp only [az,jct,jcq,jcs,jco,or_false] at hr;rcases hr with rfl|rfl|rfl <;> (first|decide|exact hT.pick _)) _)).app hT,(by rw [jcm];show 1≤1+l.length;omega),(by rw [jcm];show 1+l.length≤16;omega)⟩,rfl⟩|exact ⟨_,⟨((TR.nil.add (af (P:=fun t=>t.size≤8) (jcl _) (by intro r hr;simp only [az,jct,jcq,jcs,jco,or_false] at hr;rcases hr with rfl|rfl|rfl <;> (first|decide|exact hT.pick _)) _)).add (af (P:=fun t=>t.size≤8) (jcl _) (by intro r hr;simp only [az,jct,jcq,jcs,jco,or_false] at hr;rcases hr with rfl|rfl|rfl <;> (first|decide|exact hT.pick _)) _)).app hT,(by rw [jcm];show 1≤2+l.length;omega),(by rw [jcm];show 2+l.length≤16;omega)⟩,rfl⟩)).2.mono (by decide)|refine (q182 _ _ _ _ ?_ rfl).2.mono (by decide)|refine (q183 _ _ _ _ ?_ rfl).2.mono (by decide)|exact (ExOk.mk (d:=0) kk1 (ar (ao ⟨by decide,by decide⟩)) (jcl _) (jcl _) rfl all0).mono (by decide)|exact (ExOk.mk (d:=0) kk1 (aW _ _) (jcl _) (jcl _) rfl all0).mono (by decide)|exact (ExOk.mk (d:=0) kk2 kk0 (af (P:=fun t=>t.size≤8) (jcl _) (by intro r hr;simp only [az,jct,jcq,jcs,jco,or_false] at hr;rcases hr with rfl|rfl|rfl <;> (first|decide|exact hT.pick _)) _) (jcl _) rfl all0).mono (by decide)|refine (q180 _ _ _ _ (by repeat (first|exact ok|exact ok1|exact ok2|refine aj ?_|refine (q176 _ _ _ _ ?_ ⟨_,⟨hT,hl1,(by omega)⟩,rfl⟩).1|refine (q143d1 _ _ _ _ ?_ (by first|exact ⟨_,⟨hT,hl1,(by omega)⟩,rfl⟩|exact ⟨_,⟨(TR.nil.add (af (P:=fun t=>t.size≤8) (jcl _) (by intro r hr;simp only [az,jct,jcq,jcs,jco,or_false] at hr;rcases hr with rfl|rfl|rfl <;> (first|decide|exact hT.pick _)) _)).app hT,(by rw [jcm];show 1≤1+l.length;omega),(by rw [jcm];show 1+l.length≤16;omega)⟩,rfl⟩|exact ⟨_,⟨((TR.nil.add (af (P:=fun t=>t.size≤8) (jcl _) (by intro r hr;simp only [az,jct,jcq,jcs,jco,or_false] at hr;rcases hr with rfl|rfl|rfl <;> (first|decide|exact hT.pick _)) _)).add (af (P:=fun t=>t.size≤8) (jcl _) (by intro r hr;simp only [az,jct,jcq,jcs,jco,or_false] at hr;rcases hr with rfl|rfl|rfl <;> (first|decide|exact hT.pick _)) _)).app hT,(by rw [jcm];show 1≤2+l.length;omega),(by rw [jcm];show 2+l.length≤16;omega)⟩,rfl⟩)).1|refine (q178 _ _ _ _ ?_ ⟨_,⟨hT,hl1,(by omega)⟩,rfl⟩).1|refine (q180 _ _ _ _ ?_ ⟨⟨_,_,_,_⟩,⟨_,_,_,_⟩,rfl⟩).1|refine (q182 _ _ _ _ ?_ rfl).1|refine (q183 _ _ _ _ ?_ rfl).1)) ⟨⟨_,_,_,_⟩,⟨_,_,_,_⟩,rfl⟩).2 (ExOk _) (all2 ?_ ?_)|refine ExOk.mk (d:=3) kk5 kk0 (jdm rfl) (by first|exact (show (0:Nat)≤4 by decide)|exact (show (1:Nat)≤4 by decide)|exact (show (2:Nat)≤4 by decide)|exact (show (3:Nat)≤4 by decide)) rfl ?_|refine aR ?_ ?_|exact all0)))))
 all_goals repeat (first|exact ok|exact ok1|exact ok2|refine aj ?_|refine (q176 _ _ _ _ ?_ ⟨_,⟨hT,hl1,(by omega)⟩,rfl⟩).1|refine (q143d1 _ _ _ _ ?_ (by first|exact ⟨_,⟨hT,hl1,(by omega)⟩,rfl⟩|exact ⟨_,⟨(TR.nil.add (af (P:=fun t=>t.size≤8) (jcl _) (by intro r hr;simp only [az,jct,jcq,jcs,jco,or_false] at hr;rcases hr with rfl|rfl|rfl <;> (first|decide|exact hT.pick _)) _)).app hT,(by rw [jcm];show 1≤1+l.length;omega),(by rw [jcm];show 1+l.length≤16;omega)⟩,rfl⟩|exact ⟨_,⟨((TR.nil.add (af (P:=fun t=>t.size≤8) (jcl _) (by intro r hr;simp only [az,jct,jcq,jcs,jco,or_false] at hr;rcases hr with rfl|rfl|rfl <;> (first|decide|exact hT.pick _)) _)).add (af (P:=fun t=>t.size≤8) (jcl _) (by intro r hr;simp only [az,jct,jcq,jcs,jco,or_false] at hr;rcases hr with rfl|rfl|rfl <;> (first|decide|exact hT.pick _)) _)).app hT,(by rw [jcm];show 1≤2+l.length;omega),(by rw [jcm];show 2+l.length≤16;omega)⟩,rfl⟩)).1|refine (q178 _ _ _ _ ?_ ⟨_,⟨hT,hl1,(by omega)⟩,rfl⟩).1|refine (q180 _ _ _ _ ?_ ⟨⟨_,_,_,_⟩,⟨_,_,_,_⟩,rfl⟩).1|refine (q182 _ _ _ _ ?_ rfl).1|refine (q183 _ _ _ _ ?_ rfl).1)
end Go.Proofs.YtcllpknipmcolaaGreatDoor.Ab
