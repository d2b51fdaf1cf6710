/- Drawn expressions: printed by a program of this -/
import Derived.Test.YtkpnfbdoaljkpaaGreatDoorCJx
namespace Go.Proofs.YtkpnfbdoaljkpaaGreatDoor.Ab
open Go.RowKit
set_option linter.all false
set_option maxRecDepth 100000
set_option maxHeartbeats 2000000
def ke:FSpec where
 pre args:=∃ n:Int,args=[.val false [.i .i64 n]]
 res args:=match args with
  | [.val _ [.i _ n]]=>.val true [.i .i64 1,.i .i64 n,.s ⟨#[]⟩,.sl true 199 []]
  | _=>.none
theorem okE237:FOk Tryz.prog T 237 ke:=by
 refine fok (env:=envL []) (N:=5) tabT ae mixed Tryz.func237 rfl Tryz.call237 Tryz.ntmps237 ?_
 rintro args ⟨n,rfl⟩ hwf
 refine ⟨by simp,?_⟩
 clear hwf
 rw [Tryz.results237]
 repeat' first
  | (refine And.intro ?_ ?_)
  | (intro h;simp only [reduceCtorEq] at h;done)
  | (intro h;rw [h])
  | (intro h)
 all_goals first
  | (show ac _=true;kernel_rfl)|(show aj _ _=true;kernel_rfl)|exact True.intro|exact Or.inr rfl|exact Or.inl rfl
  | exact rfl
  | skip
def uV:FSpec where
 pre args:=∃ n:ByteArray,args=[.val false [.s n]]
 res args:=match args with
  | [.val _ [.s n]]=>.val true [.i .i64 3,.i .i64 0,.s n,.sl true 199 []]
  | _=>.none
theorem okE258:FOk Tryz.prog T 258 uV:=by
 refine fok (env:=envL []) (N:=5) tabT ae mixed Tryz.func258 rfl Tryz.call258 Tryz.ntmps258 ?_
 rintro args ⟨n,rfl⟩ hwf
 refine ⟨by simp,?_⟩
 clear hwf
 rw [Tryz.results258]
 repeat' first
  | (refine And.intro ?_ ?_)
  | (intro h;simp only [reduceCtorEq] at h;done)
  | (intro h;rw [h])
  | (intro h)
 all_goals first
  | (show ac _=true;kernel_rfl)|(show aj _ _=true;kernel_rfl)|exact True.intro|exact Or.inr rfl|exact Or.inl rfl
  | exact rfl
  | skip
def qQ:FSpec where
 pre args:=∃ (n:Int) (a b:List D),args=[.val false [.i .i64 n],argG [.i .i64,.i .i64,.s,.l 199] a,argG [.i .i64,.i .i64,.s,.l 199] b]
 res args:=match args with
  | [.val _ [.i _ n],.val _ ca,.val _ cb]=>.val true [.i .i64 6,.i .i64 n,.s ⟨#[]⟩,.sl true 199 ([]++[csD ca]++[csD cb])]
  | _=>.none
theorem okE233:FOk Tryz.prog T 233 qQ:=by
 refine fok (env:=envL []) (N:=12) tabT ae mixed Tryz.func233 rfl Tryz.call233 Tryz.ntmps233 ?_
 rintro args ⟨n,a,b,rfl⟩ hwf
 refine ⟨by simp,?_⟩
 clear hwf
 rw [Tryz.results233]
 repeat' first
  | (refine And.intro ?_ ?_)
  | (intro h;simp only [reduceCtorEq] at h;done)
  | (intro h;rw [h])
  | (intro h)
 all_goals first
  | (show ac _=true;kernel_rfl)|(show aj _ _=true;kernel_rfl)|exact True.intro|exact Or.inr rfl|exact Or.inl rfl
  | exact rfl
  | skip
def lW:FSpec where
 pre args:=∃ (s:ByteArray) (l:List (List D)),args=[.val false [.s s],argS 199 l]
 res args:=match args with
  | [.val _ [.s s],.val _ [.sl _ _ l]]=>.val true [.i .i64 5,.i .i64 0,.s s,.sl false 199 l]
  | _=>.none
theorem okE235:FOk Tryz.prog T 235 lW:=by
 refine fok (env:=envL []) (N:=8) tabT ae mixed Tryz.func235 rfl Tryz.call235 Tryz.ntmps235 ?_
 rintro args ⟨n,l,rfl⟩ hwf
 refine ⟨by simp,?_⟩
 clear hwf
 rw [Tryz.results235]
 repeat' first
  | (refine And.intro ?_ ?_)
  | (intro h;simp only [reduceCtorEq] at h;done)
  | (intro h;rw [h])
  | (intro h)
 all_goals first
  | (show ac _=true;kernel_rfl)|(show aj _ _=true;kernel_rfl)|exact True.intro|exact Or.inr rfl|exact Or.inl rfl
  | exact rfl
  | skip
theorem okN235:FOk Tryz.prog T 235 (nil2 lW 199):=FOk.nil2 rfl (by rintro a x ⟨s,l,rfl⟩ h;simp at h) okE235
def pD (a:List SV):List (List D):=match a with
 | [.val _ c,.val _ c']=>[csD c,csD c']
 | _=>[]
theorem all2 {p:List D→Prop} {a b:List D} (ha:p a) (hb:p b):∀ y ∈ [a,b],p y:=fun y hy=>by
 rcases ja1.1 hy with rfl|hy
 · exact ha
 · exact all1 hb y hy
theorem any236:AnyD Tryz.prog T 236 5 (fun m=>∃ a b:EL,m=[argG [.i .i64,.i .i64,.s,.l 199] a.row,argG [.i .i64,.i .i64,.s,.l 199] b.row]) (fun x:EL=>.val true [.i .i64 x.k,.i .i64 x.n,.s x.t,.sl false 199 x.l]) (fun (m:List SV) (x:EL)=>∀ P:List D→Prop,(∀ r ∈ pD m,P r)→P x.row):=by
 refine AnyD.of (fun m=>⟨((pD m).getD 0 [] |>.getD 0 default).int,((pD m).getD 0 [] |>.getD 1 default).int,((pD m).getD 0 [] |>.getD 2 default).str,((pD m).getD 0 [] |>.getD 3 default).rows⟩) ((by rintro m ⟨x,y,rfl⟩ P h;exact h _ (jbo ..))) (dN (α:=EL × Int × Int) (fun _ z=>(fun x:EL=>.val true [.i .i64 x.k,.i .i64 x.n,.s x.t,.sl false 199 x.l]) z.1) (fun a z=>curU 5 a z.2.1 z.2.2) (post:=fun a z=>bh (rowsOf a) z.2.1∧(fun (m:List SV) (x:EL)=>∀ P:List D→Prop,(∀ r ∈ pD m,P r)→P x.row) a.tail z.1) (env:=envL [(83,(kd 5))]) (N:=11) tabT (aa ok83 ae) mixed Tryz.func236 rfl Tryz.call236 Tryz.ntmps236 ?_)
 rintro cs args ⟨rows,i,h0,more,ok,hp,he⟩ hwf
 obtain ⟨rfl,rfl⟩:cs=curC 5 rows i h0∧args=more:=by simpa only [jbj,SV.tup.injEq,jbn,true_and,and_true] using he
 obtain ⟨a,b,rfl⟩:=hp
 refine ⟨by simp,?_⟩
 clear he hwf
 rw [Tryz.results236]
 repeat' first
  | (refine And.intro ?_ ?_)
  | (intro h;simp only [reduceCtorEq] at h;done)
  | (intro h;rw [h])
  | (intro h)
 all_goals first
  | (show ac _=true;kernel_rfl)|(show aj _ _=true;kernel_rfl)|exact True.intro|exact Or.inr rfl|exact Or.inl rfl
  | (show aL _ _;rfl)
  | (show List.length _=_;rfl)
  | refine ⟨_,_,_,_,?_,⟨by decide,by decide⟩,rfl⟩
  | refine ⟨_,_,_,?_,rfl⟩
  | (refine ⟨(⟨_,_,_,_⟩,_,_),⟨?_,?_⟩,rfl,rfl,True.intro⟩;rotate_left;focus (exact fun P h=>h _ (jbo ..)))
  | (refine ⟨(⟨_,_,_,_⟩,_,_),⟨?_,?_⟩,rfl,rfl,True.intro⟩;rotate_left;focus (exact fun P h=>h _ (jbC _ (jbo ..))))
  | skip
 all_goals repeat (first|exact ok|exact ok1|exact ok2|refine am ?_)
theorem any238:AnyD Tryz.prog T 238 5 (fun m=>m=[]) (fun x:EL=>.val true [.i .i64 x.k,.i .i64 x.n,.s x.t,.sl false 199 x.l]) (fun (m:List SV) (x:EL)=>ExOk 1 x.row):=by
 refine AnyD.of (fun _=>⟨1,0,⟨#[]⟩,[]⟩) (fun _ _=>ExOk.mk (d:=0) kk1 kk0 (jaU _) (jaU _) rfl all0) (dN (α:=EL × Int × Int) (fun _ z=>(fun x:EL=>.val true [.i .i64 x.k,.i .i64 x.n,.s x.t,.sl false 199 x.l]) z.1) (fun a z=>curU 5 a z.2.1 z.2.2) (post:=fun a z=>bh (rowsOf a) z.2.1∧(fun (m:List SV) (x:EL)=>ExOk 1 x.row) a.tail z.1) (env:=envL [(140,(eh 5 9))]) (N:=7) tabT (aa ok140 ae) mixed Tryz.func238 rfl Tryz.call238 Tryz.ntmps238 ?_)
 rintro cs args ⟨rows,i,h0,more,ok,hp,he⟩ hwf
 obtain ⟨rfl,rfl⟩:cs=curC 5 rows i h0∧args=more:=by simpa only [jbj,SV.tup.injEq,jbn,true_and,and_true] using he
 obtain rfl:=hp
 refine ⟨by simp,?_⟩
 clear he hwf
 rw [Tryz.results238]
 repeat' first
  | (refine And.intro ?_ ?_)
  | (intro h;simp only [reduceCtorEq] at h;done)
  | (intro h;rw [h])
  | (intro h)
 all_goals first
  | (show ac _=true;kernel_rfl)|(show aj _ _=true;kernel_rfl)|exact True.intro|exact Or.inr rfl|exact Or.inl rfl
  | (show aL _ _;rfl)
  | (show List.length _=_;rfl)
  | refine ⟨_,_,_,_,?_,⟨by decide,by decide⟩,rfl⟩
  | refine ⟨_,_,_,?_,rfl⟩
  | (refine ⟨(⟨_,_,_,_⟩,_,_),⟨?_,?_⟩,rfl,rfl,True.intro⟩;rotate_left;focus (exact ExOk.mk (d:=0) kk2 kk0 (ah (P:=fun t=>t.size≤8) (jaU _) (by intro r hr;simp only [az,ja2,jaZ,ja1,jaX,or_false] at hr;rcases hr with rfl|rfl|rfl|rfl|rfl <;> decide) _) (jaU _) rfl all0))
  | skip
 all_goals repeat (first|exact ok|exact ok1|exact ok2|refine am ?_)
theorem any232:AnyD Tryz.prog T 232 5 (fun m=>∃ l:List (List D),(TR 8 l∧1≤l.length∧l.length≤32)∧m=[argS 9 l]) (fun x:EL=>.val true [.i .i64 x.k,.i .i64 x.n,.s x.t,.sl false 199 x.l]) (fun (m:List SV) (x:EL)=>ExOk 1 x.row):=by
 refine AnyD.of (fun _=>⟨1,0,⟨#[]⟩,[]⟩) (fun _ _=>ExOk.mk (d:=0) kk1 kk0 (jaU _) (jaU _) rfl all0) (dN (α:=EL × Int × Int) (fun _ z=>(fun x:EL=>.val true [.i .i64 x.k,.i .i64 x.n,.s x.t,.sl false 199 x.l]) z.1) (fun a z=>curU 5 a z.2.1 z.2.2) (post:=fun a z=>bh (rowsOf a) z.2.1∧(fun (m:List SV) (x:EL)=>ExOk 1 x.row) a.tail z.1) (env:=envL [(46,(bH 5)),(140,(eh 5 9)),(237,ke),(258,uV)]) (N:=23) tabT (aa ok46 (aa ok140 (aa okE237 (aa okE258 ae)))) mixed Tryz.func232 rfl Tryz.call232 Tryz.ntmps232 ?_)
 rintro cs args ⟨rows,i,h0,more,ok,hp,he⟩ hwf
 obtain ⟨rfl,rfl⟩:cs=curC 5 rows i h0∧args=more:=by simpa only [jbj,SV.tup.injEq,jbn,true_and,and_true] using he
 obtain ⟨l,⟨hT,hl1,hl2⟩,rfl⟩:=hp
 refine ⟨by simp,?_⟩
 clear he hwf
 rw [Tryz.results232]
 repeat' first
  | (refine And.intro ?_ ?_)
  | (intro h;simp only [reduceCtorEq] at h;done)
  | (intro h;rw [h])
  | (intro h)
 all_goals first
  | (show ac _=true;kernel_rfl)|(show aj _ _=true;kernel_rfl)|exact True.intro|exact Or.inr rfl|exact Or.inl rfl
  | (show aL _ _;rfl)
  | (show List.length _=_;rfl)
  | refine ⟨_,_,_,_,?_,⟨by decide,by decide⟩,rfl⟩
  | refine ⟨_,_,_,?_,rfl⟩
  | exact ⟨_,rfl⟩
  | refine ⟨_,_,_,_,?_,⟨by omega,by omega⟩,rfl⟩
  | (refine ⟨(⟨_,_,_,_⟩,_,_),⟨?_,?_⟩,rfl,rfl,True.intro⟩;rotate_left;focus (exact ExOk.mk (d:=0) kk2 kk0 (ah (P:=fun t=>t.size≤8) (jaU _) (by intro r hr;simp only [az,ja2,jaZ,ja1,jaX,or_false] at hr;rcases hr with rfl|rfl|rfl|rfl <;> decide) _) (jaU _) rfl all0))
  | (refine ⟨(⟨_,_,_,_⟩,_,_),⟨?_,?_⟩,rfl,rfl,True.intro⟩;rotate_left;focus (exact ExOk.mk (d:=0) kk1 (ax (av ⟨by decide,by decide⟩)) (jaU _) (jaU _) rfl all0))
  | (refine ⟨(⟨_,_,_,_⟩,_,_),⟨?_,?_⟩,rfl,rfl,True.intro⟩;rotate_left;focus (exact ExOk.mk (d:=0) kk3 kk0 (hT.pick _) (jaU _) rfl all0))
  | skip
 all_goals repeat (first|exact ok|exact ok1|exact ok2|refine am ?_)
theorem any234:AnyD Tryz.prog T 234 5 (fun m=>∃ l:List (List D),(TR 8 l∧1≤l.length∧l.length≤32)∧m=[argS 9 l]) (fun x:EL=>.val true [.i .i64 x.k,.i .i64 x.n,.s x.t,.sl false 199 x.l]) (fun (m:List SV) (x:EL)=>ExOk 2 x.row):=by
 obtain ⟨g232,k232,q232⟩:=any232
 refine AnyD.of (fun _=>⟨1,0,⟨#[]⟩,[]⟩) (fun _ _=>ExOk.mk (d:=1) kk1 kk0 (jaU _) (jaU _) rfl all0) (dN (α:=EL × Int × Int) (fun _ z=>(fun x:EL=>.val true [.i .i64 x.k,.i .i64 x.n,.s x.t,.sl false 199 x.l]) z.1) (fun a z=>curU 5 a z.2.1 z.2.2) (post:=fun a z=>bh (rowsOf a) z.2.1∧(fun (m:List SV) (x:EL)=>ExOk 2 x.row) a.tail z.1) (env:=envL [(46,(bH 5)),(237,ke),(83,(kd 5)),(232,spD 5 (fun m=>∃ l:List (List D),(TR 8 l∧1≤l.length∧l.length≤32)∧m=[argS 9 l]) (fun x:EL=>.val true [.i .i64 x.k,.i .i64 x.n,.s x.t,.sl false 199 x.l]) g232)]) (N:=34) tabT (aa ok46 (aa okE237 (aa ok83 (aa k232 ae)))) mixed Tryz.func234 rfl Tryz.call234 Tryz.ntmps234 ?_)
 rintro cs args ⟨rows,i,h0,more,ok,hp,he⟩ hwf
 obtain ⟨rfl,rfl⟩:cs=curC 5 rows i h0∧args=more:=by simpa only [jbj,SV.tup.injEq,jbn,true_and,and_true] using he
 obtain ⟨l,⟨hT,hl1,hl2⟩,rfl⟩:=hp
 refine ⟨by simp,?_⟩
 clear he hwf
 rw [Tryz.results234]
 repeat' first
  | (refine And.intro ?_ ?_)
  | (intro h;simp only [reduceCtorEq] at h;done)
  | (intro h;rw [h])
  | (intro h)
 all_goals first
  | (show ac _=true;kernel_rfl)|(show aj _ _=true;kernel_rfl)|exact True.intro|exact Or.inr rfl|exact Or.inl rfl
  | (show aL _ _;rfl)
  | (show List.length _=_;rfl)
  | refine ⟨_,_,_,_,?_,⟨by decide,by decide⟩,rfl⟩
  | refine ⟨_,_,_,?_,rfl⟩
  | refine ⟨_,_,_,_,?_,⟨_,⟨hT,hl1,hl2⟩,rfl⟩,rfl⟩
  | skip
 all_goals try ((with_reducible show bh _ _);repeat (first|exact ok|exact ok1|exact ok2|refine am ?_|refine (q232 _ _ _ _ ?_ ⟨_,⟨hT,hl1,hl2⟩,rfl⟩).1))
 refine ar (Q:=_) [0,1,4,5,6,7] [34,4,5] (fun n s=>∃ (z m:Int) (o:List (List D)) (I H:Int),s=([.ptr 34 0 0,argS 9 l,.ptr 4 1 0,.ptr 5 1 0,.val false [.i .i64 m],.val false [.i .i64 z]],[(0,[.val false [.sl false 5 rows],.val false [.i .i64 I],.val false [.i .i64 H]]),(1,[.val false [.i .i64 0],.val false [.i .i64 0],.val false [.s ByteArray.empty],.val false [.sl true 199 []]]),(1,[.val false [.i .i64 4],.val false [.i .i64 0],.val false [.s ByteArray.empty],.val false [.sl true 199 (o)]])])∧0≤m∧m≤3∧bh rows I∧(∀ y ∈ o,ExOk 1 y)∧o.length=z.toNat∧0≤z∧z≤m∧n=m.toNat - z.toNat) ?_ ?_
 · exact ⟨rfl,_,0,_,_,_,_,rfl,(aN (rows:=rows) (i:=i) (h:=h0) (n:=4) ⟨by decide,by decide⟩).1,jcn (aN (rows:=rows) (i:=i) (h:=h0) (n:=4) ⟨by decide,by decide⟩).2,am ok,all0,rfl,by decide,(aN (rows:=rows) (i:=i) (h:=h0) (n:=4) ⟨by decide,by decide⟩).1,rfl⟩
 rintro n s ⟨z,m,o,I,H,rfl,hm0,hm1,ok1,hA,hol,h1,h2,h3⟩
 repeat' first
  | (refine And.intro ?_ ?_)
  | (intro h;simp only [reduceCtorEq] at h;done)
  | (intro h;rw [h])
  | (intro h)
 all_goals first
  | (show ac _=true;kernel_rfl)|(show aj _ _=true;kernel_rfl)|exact True.intro|exact Or.inr rfl|exact Or.inl rfl
  | (show aL _ _;rfl)
  | (show List.length _=_;rfl)
  | exact ⟨_,_,_,_,(by repeat (first|exact ok|exact ok1|exact ok2|refine am ?_|refine (q232 _ _ _ _ ?_ ⟨_,⟨hT,hl1,hl2⟩,rfl⟩).1)),⟨by decide,by decide⟩,rfl⟩
  | exact ⟨_,rfl⟩
  | exact ⟨_,_,_,_,(by repeat (first|exact ok|exact ok1|exact ok2|refine am ?_|refine (q232 _ _ _ _ ?_ ⟨_,⟨hT,hl1,hl2⟩,rfl⟩).1)),⟨_,⟨hT,hl1,hl2⟩,rfl⟩,rfl⟩
  | (show o.length+1≤maxLen;simp only [maxLen];omega)
  | (show (o.length+1) * 56≤140737488355328;omega)
  | (have hz:z < m:=jaT ‹decide (z < m)=true›
     first
      | exact h1
      | (show z < (((o++_).length:Nat):Int);rw [jaV];show z < ((o.length+1:Nat):Int);omega)
      | (show z.toNat < (o++_).length;rw [jaV];show z.toNat < o.length+1;omega)
      | (refine ⟨m.toNat - (z+1).toNat,by omega,z+1,m,_,_,_,congrArg (fun q=>(([.ptr 34 0 0,argS 9 l,.ptr 4 1 0,.ptr 5 1 0,.val false [.i .i64 _],.val false [.i .i64 q]],[(0,[.val false [.sl false 5 rows],.val false [.i .i64 _],.val false [.i .i64 _]]),(1,[.val false [.i .i64 0],.val false [.i .i64 0],.val false [.s ByteArray.empty],.val false [.sl true 199 []]]),(1,[.val false [.i .i64 4],.val false [.i .i64 0],.val false [.s ByteArray.empty],.val false [.sl true 199 (_)]])]):Snap)) (aD (by omega) (by omega)),hm0,hm1,(by repeat (first|exact ok|exact ok1|exact ok2|refine am ?_|refine (q232 _ _ _ _ ?_ ⟨_,⟨hT,hl1,hl2⟩,rfl⟩).1)),?_,?_,by omega,by omega,rfl⟩
         · first|exact aS hA (ExOk.mk (d:=0) kk1 (ax (av ⟨by decide,by decide⟩)) (jaU _) (jaU _) rfl all0)|exact jam (aS hA (ExOk.mk (d:=0) kk1 (ax (av ⟨by decide,by decide⟩)) (jaU _) (jaU _) rfl all0)) (by rw [jaV];show z.toNat < o.length+1;omega) (q232 _ _ _ _ (by repeat (first|exact ok|exact ok1|exact ok2|refine am ?_|refine (q232 _ _ _ _ ?_ ⟨_,⟨hT,hl1,hl2⟩,rfl⟩).1)) ⟨_,⟨hT,hl1,hl2⟩,rfl⟩).2
         · first|(rw [jaV,hol];show z.toNat+1=_;omega)|(rw [rA,jaV,hol];show z.toNat+1=_;omega)))
  | (refine ⟨(⟨_,_,_,_⟩,_,_),⟨ok1,?_⟩,rfl,rfl,True.intro⟩
     exact ExOk.mk kk4 kk0 (jaU _) (show o.length≤4 by omega) rfl hA)
  | skip
theorem any239:AnyD Tryz.prog T 239 5 (fun m=>m=[]) (fun x:EL=>.val true [.i .i64 x.k,.i .i64 x.n,.s x.t,.sl false 199 x.l]) (fun (m:List SV) (x:EL)=>ExOk 4 x.row):=by
 refine AnyD.of (fun _=>⟨1,0,⟨#[]⟩,[]⟩) (fun _ _=>ExOk.mk (d:=3) kk1 kk0 (jaU _) (jaU _) rfl all0) (dN (α:=EL × Int × Int) (fun _ z=>(fun x:EL=>.val true [.i .i64 x.k,.i .i64 x.n,.s x.t,.sl false 199 x.l]) z.1) (fun a z=>curU 5 a z.2.1 z.2.2) (post:=fun a z=>bh (rowsOf a) z.2.1∧(fun (m:List SV) (x:EL)=>ExOk 4 x.row) a.tail z.1) (env:=envL [(46,(bH 5)),(237,ke),(235,(nil2 lW 199))]) (N:=31) tabT (aa ok46 (aa okE237 (aa okN235 ae))) mixed Tryz.func239 rfl Tryz.call239 Tryz.ntmps239 ?_)
 rintro cs args ⟨rows,i,h0,more,ok,hp,he⟩ hwf
 obtain ⟨rfl,rfl⟩:cs=curC 5 rows i h0∧args=more:=by simpa only [jbj,SV.tup.injEq,jbn,true_and,and_true] using he
 obtain rfl:=hp
 refine ⟨by simp,?_⟩
 clear he hwf
 rw [Tryz.results239]
 repeat' first
  | (refine And.intro ?_ ?_)
  | (intro h;simp only [reduceCtorEq] at h;done)
  | (intro h;rw [h])
  | (intro h)
 all_goals first
  | (show ac _=true;kernel_rfl)|(show aj _ _=true;kernel_rfl)|exact True.intro|exact Or.inr rfl|exact Or.inl rfl
  | (show aL _ _;rfl)
  | (show List.length _=_;rfl)
  | refine ⟨_,_,_,_,?_,⟨by decide,by decide⟩,rfl⟩
  | refine ⟨_,_,_,?_,rfl⟩
  | skip
 all_goals try ((with_reducible show bh _ _);repeat (first|exact ok|exact ok1|exact ok2|refine am ?_))
 refine ar (Q:=_) [0,2,3,4,5] [31,2,3] (fun n s=>∃ (z m:Int) (o:List (List D)) (I H:Int),s=([.ptr 31 0 0,.ptr 2 1 0,.ptr 3 1 0,.val false [.i .i64 m],.val false [.i .i64 z]],[(0,[.val false [.sl false 5 rows],.val false [.i .i64 I],.val false [.i .i64 H]]),(1,[.val false [.i .i64 0],.val false [.i .i64 0],.val false [.s ByteArray.empty],.val false [.sl true 199 []]]),(1,[.val false [.i .i64 4],.val false [.i .i64 0],.val false [.s ByteArray.empty],.val false [.sl true 199 (o)]])])∧0≤m∧m≤3∧bh rows I∧(∀ y ∈ o,ExOk 2 y)∧o.length=z.toNat∧0≤z∧z≤m∧n=m.toNat - z.toNat) ?_ ?_
 · exact ⟨rfl,_,0,_,_,_,_,rfl,(aN (rows:=rows) (i:=i) (h:=h0) (n:=4) ⟨by decide,by decide⟩).1,jcn (aN (rows:=rows) (i:=i) (h:=h0) (n:=4) ⟨by decide,by decide⟩).2,am ok,all0,rfl,by decide,(aN (rows:=rows) (i:=i) (h:=h0) (n:=4) ⟨by decide,by decide⟩).1,rfl⟩
 rintro n s ⟨z,m,o,I,H,rfl,hm0,hm1,ok1,hA,hol,h1,h2,h3⟩
 repeat' first
  | (refine And.intro ?_ ?_)
  | (intro h;simp only [reduceCtorEq] at h;done)
  | (intro h;rw [h])
  | (intro h)
 all_goals first
  | (show ac _=true;kernel_rfl)|(show aj _ _=true;kernel_rfl)|exact True.intro|exact Or.inr rfl|exact Or.inl rfl
  | (show aL _ _;rfl)
  | (show List.length _=_;rfl)
  | exact ⟨_,_,_,_,(by repeat (first|exact ok|exact ok1|exact ok2|refine am ?_)),⟨by decide,by decide⟩,rfl⟩
  | exact ⟨_,rfl⟩
  | exact .inl ⟨_,_,rfl⟩
  | (show o.length+1≤maxLen;simp only [maxLen];omega)
  | (show (o.length+1) * 56≤140737488355328;omega)
  | (have hz:z < m:=jaT ‹decide (z < m)=true›
     first
      | exact h1
      | (show z < (((o++_).length:Nat):Int);rw [jaV];show z < ((o.length+1:Nat):Int);omega)
      | (show z.toNat < (o++_).length;rw [jaV];show z.toNat < o.length+1;omega)
      | (refine ⟨m.toNat - (z+1).toNat,by omega,z+1,m,_,_,_,congrArg (fun q=>(([.ptr 31 0 0,.ptr 2 1 0,.ptr 3 1 0,.val false [.i .i64 _],.val false [.i .i64 q]],[(0,[.val false [.sl false 5 rows],.val false [.i .i64 _],.val false [.i .i64 _]]),(1,[.val false [.i .i64 0],.val false [.i .i64 0],.val false [.s ByteArray.empty],.val false [.sl true 199 []]]),(1,[.val false [.i .i64 4],.val false [.i .i64 0],.val false [.s ByteArray.empty],.val false [.sl true 199 (_)]])]):Snap)) (aD (by omega) (by omega)),hm0,hm1,(by repeat (first|exact ok|exact ok1|exact ok2|refine am ?_)),?_,?_,by omega,by omega,rfl⟩
         · exact aS hA (ExOk.mk (d:=1) kk4 kk0 (jaU _) (show (2:Nat)≤4 by decide) rfl (aS (aS all0 (ExOk.mk (d:=0) kk1 (ax (av ⟨by decide,by decide⟩)) (jaU _) (jaU _) rfl all0)) (ExOk.mk (d:=0) kk1 (ax (av ⟨by decide,by decide⟩)) (jaU _) (jaU _) rfl all0)))
         · first|(rw [jaV,hol];show z.toNat+1=_;omega)|(rw [rA,jaV,hol];show z.toNat+1=_;omega)))
  | (refine ⟨(⟨_,_,_,_⟩,_,_),⟨ok1,?_⟩,rfl,rfl,True.intro⟩
     exact ExOk.mk (d:=3) kk5 kk0 (jbV rfl) (show (2:Nat)≤4 by decide) rfl (aS (aS all0 ((ExOk.mk (d:=0) kk2 kk0 (jbV rfl) (jaU _) rfl all0).mono (by decide))) (ExOk.mk (d:=2) kk4 kk0 (jaU _) (show o.length≤4 by omega) rfl hA)))
  | skip
theorem any208d1:AnyD Tryz.prog T 208 5 (fun m=>∃ l:List (List D),(TR 8 l∧1≤l.length∧l.length≤16)∧m=[argS 9 l,.val false [.i .i64 1]]) (fun x:EL=>.val true [.i .i64 x.k,.i .i64 x.n,.s x.t,.sl false 199 x.l]) (fun (m:List SV) (x:EL)=>ExOk 1 x.row):=by
 obtain ⟨g232,k232,q232⟩:=any232
 obtain ⟨g234,k234,q234⟩:=any234
 obtain ⟨g236,k236,q236⟩:=any236
 obtain ⟨g238,k238,q238⟩:=any238
 obtain ⟨g239,k239,q239⟩:=any239
 refine AnyD.of (fun _=>⟨1,0,⟨#[]⟩,[]⟩) (fun _ _=>ExOk.mk (d:=0) kk1 kk0 (jaU _) (jaU _) rfl all0) (dN (α:=EL × Int × Int) (fun _ z=>(fun x:EL=>.val true [.i .i64 x.k,.i .i64 x.n,.s x.t,.sl false 199 x.l]) z.1) (fun a z=>curU 5 a z.2.1 z.2.2) (post:=fun a z=>bh (rowsOf a) z.2.1∧(fun (m:List SV) (x:EL)=>ExOk 1 x.row) a.tail z.1) (env:=envL [(232,spD 5 (fun m=>∃ l:List (List D),(TR 8 l∧1≤l.length∧l.length≤32)∧m=[argS 9 l]) (fun x:EL=>.val true [.i .i64 x.k,.i .i64 x.n,.s x.t,.sl false 199 x.l]) g232),(46,(bH 5)),(208, { pre:=fun _=>False,res:=fun _=>.none }),(233,qQ),(140,(eh 5 9)),(234,spD 5 (fun m=>∃ l:List (List D),(TR 8 l∧1≤l.length∧l.length≤32)∧m=[argS 9 l]) (fun x:EL=>.val true [.i .i64 x.k,.i .i64 x.n,.s x.t,.sl false 199 x.l]) g234),(236,spD 5 (fun m=>∃ a b:EL,m=[argG [.i .i64,.i .i64,.s,.l 199] a.row,argG [.i .i64,.i .i64,.s,.l 199] b.row]) (fun x:EL=>.val true [.i .i64 x.k,.i .i64 x.n,.s x.t,.sl false 199 x.l]) g236),(235,(nil2 lW 199)),(237,ke),(238,spD 5 (fun m=>m=[]) (fun x:EL=>.val true [.i .i64 x.k,.i .i64 x.n,.s x.t,.sl false 199 x.l]) g238),(239,spD 5 (fun m=>m=[]) (fun x:EL=>.val true [.i .i64 x.k,.i .i64 x.n,.s x.t,.sl false 199 x.l]) g239)]) (N:=209) tabT (aa k232 (aa ok46 (aa (FOk.no Tryz.call208) (aa okE233 (aa ok140 (aa k234 (aa k236 (aa okN235 (aa okE237 (aa k238 (aa k239 ae))))))))))) mixed Tryz.func208 rfl Tryz.call208 Tryz.ntmps208 ?_)
 rintro cs args ⟨rows,i,h0,more,ok,hp,he⟩ hwf
 obtain ⟨rfl,rfl⟩:cs=curC 5 rows i h0∧args=more:=by simpa only [jbj,SV.tup.injEq,jbn,true_and,and_true] using he
 obtain ⟨l,⟨hT,hl1,hl2⟩,rfl⟩:=hp
 refine ⟨by simp,?_⟩
 clear he hwf
 rw [Tryz.results208]
 repeat' first
  | (refine And.intro ?_ ?_)
  | (intro h;simp only [reduceCtorEq] at h;done)
  | (intro h;rw [h])
  | (intro h)
 all_goals first
  | (show ac _=true;kernel_rfl)|(show aj _ _=true;kernel_rfl)|exact True.intro|exact Or.inr rfl|exact Or.inl rfl
  | exact absurd (by assumption:decide ((1:Int) < 2)=false) (by decide)
  | (show aL _ _;rfl)
  | (show List.length _=_;rfl)
  | refine ⟨_,_,_,_,?_,⟨by decide,by decide⟩,rfl⟩
  | refine ⟨_,_,_,?_,rfl⟩
  | refine ⟨_,_,_,_,?_,⟨_,⟨hT,hl1,(by omega)⟩,rfl⟩,rfl⟩
  | refine ⟨_,_,_,_,?_,⟨_,⟨‹_›, ‹_›, ‹_›⟩,rfl⟩,rfl⟩
  | refine ⟨_,_,_,_,?_,⟨⟨_,_,_,_⟩,⟨_,_,_,_⟩,rfl⟩,rfl⟩
  | refine ⟨_,_,_,_,?_,rfl,rfl⟩
  | refine ⟨_,_,_,_,?_,rfl,rfl⟩
  | (refine ⟨(⟨_,_,_,_⟩,_,_),⟨?_,?_⟩,rfl,rfl,True.intro⟩;rotate_left;focus (refine (q232 _ _ _ _ ?_ ⟨_,⟨hT,hl1,(by omega)⟩,rfl⟩).2))
  | skip
 all_goals repeat (first|exact ok|exact ok1|exact ok2|refine am ?_|refine (q232 _ _ _ _ ?_ ⟨_,⟨hT,hl1,(by omega)⟩,rfl⟩).1|refine (q234 _ _ _ _ ?_ ⟨_,⟨‹_›, ‹_›, ‹_›⟩,rfl⟩).1|refine (q236 _ _ _ _ ?_ ⟨⟨_,_,_,_⟩,⟨_,_,_,_⟩,rfl⟩).1|refine (q238 _ _ _ _ ?_ rfl).1|refine (q239 _ _ _ _ ?_ rfl).1)
theorem any208d2:AnyD Tryz.prog T 208 5 (fun m=>∃ l:List (List D),(TR 8 l∧1≤l.length∧l.length≤8)∧m=[argS 9 l,.val false [.i .i64 2]]) (fun x:EL=>.val true [.i .i64 x.k,.i .i64 x.n,.s x.t,.sl false 199 x.l]) (fun (m:List SV) (x:EL)=>ExOk 5 x.row):=by
 obtain ⟨g232,k232,q232⟩:=any232
 obtain ⟨g208d1,k208d1,q208d1⟩:=any208d1
 obtain ⟨g234,k234,q234⟩:=any234
 obtain ⟨g236,k236,q236⟩:=any236
 obtain ⟨g238,k238,q238⟩:=any238
 obtain ⟨g239,k239,q239⟩:=any239
 refine AnyD.of (fun _=>⟨1,0,⟨#[]⟩,[]⟩) (fun _ _=>ExOk.mk (d:=4) kk1 kk0 (jaU _) (jaU _) rfl all0) (dN (α:=EL × Int × Int) (fun _ z=>(fun x:EL=>.val true [.i .i64 x.k,.i .i64 x.n,.s x.t,.sl false 199 x.l]) z.1) (fun a z=>curU 5 a z.2.1 z.2.2) (post:=fun a z=>bh (rowsOf a) z.2.1∧(fun (m:List SV) (x:EL)=>ExOk 5 x.row) a.tail z.1) (env:=envL [(232,spD 5 (fun m=>∃ l:List (List D),(TR 8 l∧1≤l.length∧l.length≤32)∧m=[argS 9 l]) (fun x:EL=>.val true [.i .i64 x.k,.i .i64 x.n,.s x.t,.sl false 199 x.l]) g232),(46,(bH 5)),(208,spD 5 (fun m=>∃ l:List (List D),(TR 8 l∧1≤l.length∧l.length≤16)∧m=[argS 9 l,.val false [.i .i64 1]]) (fun x:EL=>.val true [.i .i64 x.k,.i .i64 x.n,.s x.t,.sl false 199 x.l]) g208d1),(233,qQ),(140,(eh 5 9)),(234,spD 5 (fun m=>∃ l:List (List D),(TR 8 l∧1≤l.length∧l.length≤32)∧m=[argS 9 l]) (fun x:EL=>.val true [.i .i64 x.k,.i .i64 x.n,.s x.t,.sl false 199 x.l]) g234),(236,spD 5 (fun m=>∃ a b:EL,m=[argG [.i .i64,.i .i64,.s,.l 199] a.row,argG [.i .i64,.i .i64,.s,.l 199] b.row]) (fun x:EL=>.val true [.i .i64 x.k,.i .i64 x.n,.s x.t,.sl false 199 x.l]) g236),(235,(nil2 lW 199)),(237,ke),(238,spD 5 (fun m=>m=[]) (fun x:EL=>.val true [.i .i64 x.k,.i .i64 x.n,.s x.t,.sl false 199 x.l]) g238),(239,spD 5 (fun m=>m=[]) (fun x:EL=>.val true [.i .i64 x.k,.i .i64 x.n,.s x.t,.sl false 199 x.l]) g239)]) (N:=209) tabT (aa k232 (aa ok46 (aa k208d1 (aa okE233 (aa ok140 (aa k234 (aa k236 (aa okN235 (aa okE237 (aa k238 (aa k239 ae))))))))))) mixed Tryz.func208 rfl Tryz.call208 Tryz.ntmps208 ?_)
 rintro cs args ⟨rows,i,h0,more,ok,hp,he⟩ hwf
 obtain ⟨rfl,rfl⟩:cs=curC 5 rows i h0∧args=more:=by simpa only [jbj,SV.tup.injEq,jbn,true_and,and_true] using he
 obtain ⟨l,⟨hT,hl1,hl2⟩,rfl⟩:=hp
 refine ⟨by simp,?_⟩
 clear he hwf
 rw [Tryz.results208]
 repeat' first
  | (refine And.intro ?_ ?_)
  | (intro h;simp only [reduceCtorEq] at h;done)
  | (intro h;rw [h])
  | (intro h)
 all_goals first
  | (show ac _=true;kernel_rfl)|(show aj _ _=true;kernel_rfl)|exact True.intro|exact Or.inr rfl|exact Or.inl rfl
  | exact absurd (by assumption:decide ((2:Int) < 2)=true) (by decide)
  | (show aL _ _;rfl)
  | (show List.length _=_;rfl)
  | refine ⟨_,_,_,_,?_,⟨by decide,by decide⟩,rfl⟩
  | refine ⟨_,_,_,?_,rfl⟩
  | refine ⟨_,_,_,_,?_,⟨_,⟨hT,hl1,(by omega)⟩,rfl⟩,rfl⟩
  | refine ⟨_,_,_,_,?_,(by first|exact ⟨_,⟨hT,hl1,(by omega)⟩,rfl⟩|exact ⟨_,⟨(TR.nil.add (ah (P:=fun t=>t.size≤8) (jaU _) (by intro r hr;simp only [az,ja2,jaZ,ja1,jaX,or_false] at hr;rcases hr with rfl|rfl|rfl <;> (first|decide|exact hT.pick _)) _)).app hT,(by rw [jaV];show 1≤1+l.length;omega),(by rw [jaV];show 1+l.length≤16;omega)⟩,rfl⟩|exact ⟨_,⟨((TR.nil.add (ah (P:=fun t=>t.size≤8) (jaU _) (by intro r hr;simp only [az,ja2,jaZ,ja1,jaX,or_false] at hr;rcases hr with rfl|rfl|rfl <;> (first|decide|exact hT.pick _)) _)).add (ah (P:=fun t=>t.size≤8) (jaU _) (by intro r hr;simp only [az,ja2,jaZ,ja1,jaX,or_false] at hr;rcases hr with rfl|rfl|rfl <;> (first|decide|exact hT.pick _)) _)).app hT,(by rw [jaV];show 1≤2+l.length;omega),(by rw [jaV];show 2+l.length≤16;omega)⟩,rfl⟩),rfl⟩
  | refine ⟨_,_,_,_,?_,⟨_,⟨hT,hl1,(by omega)⟩,rfl⟩,rfl⟩
  | refine ⟨_,_,_,_,?_,⟨⟨_,_,_,_⟩,⟨_,_,_,_⟩,rfl⟩,rfl⟩
  | refine ⟨_,_,_,_,?_,rfl,rfl⟩
  | refine ⟨_,_,_,_,?_,rfl,rfl⟩
  | (show (0:Int) < (l.length:Int);omega)
  | (show Int.toNat 0 < l.length;exact hl1)
  | (show 1+l.length≤maxLen;simp only [maxLen];omega)
  | (show 2+l.length≤maxLen;simp only [maxLen];omega)
  | (show (1+l.length) * 16≤140737488355328;omega)
  | (show (2+l.length) * 16≤140737488355328;omega)
  | exact jbE _
  | refine ⟨_,_,_,_,?_,(by exact (show bL ((3:Nat):Int) from ⟨by decide,by decide⟩)),rfl⟩
  | exact ⟨_,EL.row _,EL.row _,rfl⟩
  | exact .inl ⟨_,_,rfl⟩
  | exact .inr ⟨_,rfl,_,_,rfl⟩
  | exact ⟨_,rfl⟩
  | exact ⟨_,_,rfl⟩
  | exact ⟨_,_,_,rfl⟩
  | (refine ⟨(⟨_,_,_,_⟩,_,_),⟨?_,?_⟩,rfl,rfl,True.intro⟩;rotate_left;focus ((refine ExOk.mk (d:=4) kk6 (aK _ _) (jaU _) (by first|exact (show (0:Nat)≤4 by decide)|exact (show (1:Nat)≤4 by decide)|exact (show (2:Nat)≤4 by decide)|exact (show (3:Nat)≤4 by decide)) rfl ?_;(repeat' (first|with_reducible exact all0|with_reducible refine aS ?_ ?_|refine (q234 _ _ _ _ ?_ ⟨_,⟨hT,hl1,(by omega)⟩,rfl⟩).2.mono (by decide)|refine (q208d1 _ _ _ _ ?_ (by first|exact ⟨_,⟨hT,hl1,(by omega)⟩,rfl⟩|exact ⟨_,⟨(TR.nil.add (ah (P:=fun t=>t.size≤8) (jaU _) (by intro r hr;simp only [az,ja2,jaZ,ja1,jaX,or_false] at hr;rcases hr with rfl|rfl|rfl <;> (first|decide|exact hT.pick _)) _)).app hT,(by rw [jaV];show 1≤1+l.length;omega),(by rw [jaV];show 1+l.length≤16;omega)⟩,rfl⟩|exact ⟨_,⟨((TR.nil.add (ah (P:=fun t=>t.size≤8) (jaU _) (by intro r hr;simp only [az,ja2,jaZ,ja1,jaX,or_false] at hr;rcases hr with rfl|rfl|rfl <;> (first|decide|exact hT.pick _)) _)).add (ah (P:=fun t=>t.size≤8) (jaU _) (by intro r hr;simp only [az,ja2,jaZ,ja1,jaX,or_false] at hr;rcases hr with rfl|rfl|rfl <;> (first|decide|exact hT.pick _)) _)).app hT,(by rw [jaV];show 1≤2+l.length;omega),(by rw [jaV];show 2+l.length≤16;omega)⟩,rfl⟩)).2.mono (by decide)|refine (q238 _ _ _ _ ?_ rfl).2.mono (by decide)|refine (q239 _ _ _ _ ?_ rfl).2.mono (by decide)|exact (ExOk.mk (d:=0) kk1 (ax (av ⟨by decide,by decide⟩)) (jaU _) (jaU _) rfl all0).mono (by decide)|exact (ExOk.mk (d:=0) kk1 (aK _ _) (jaU _) (jaU _) rfl all0).mono (by decide)|exact (ExOk.mk (d:=0) kk2 kk0 (ah (P:=fun t=>t.size≤8) (jaU _) (by intro r hr;simp only [az,ja2,jaZ,ja1,jaX,or_false] at hr;rcases hr with rfl|rfl|rfl <;> (first|decide|exact hT.pick _)) _) (jaU _) rfl all0).mono (by decide)|refine (q236 _ _ _ _ (by repeat (first|exact ok|exact ok1|exact ok2|refine am ?_|refine (q232 _ _ _ _ ?_ ⟨_,⟨hT,hl1,(by omega)⟩,rfl⟩).1|refine (q208d1 _ _ _ _ ?_ (by first|exact ⟨_,⟨hT,hl1,(by omega)⟩,rfl⟩|exact ⟨_,⟨(TR.nil.add (ah (P:=fun t=>t.size≤8) (jaU _) (by intro r hr;simp only [az,ja2,jaZ,ja1,jaX,or_false] at hr;rcases hr with rfl|rfl|rfl <;> (first|decide|exact hT.pick _)) _)).app hT,(by rw [jaV];show 1≤1+l.length;omega),(by rw [jaV];show 1+l.length≤16;omega)⟩,rfl⟩|exact ⟨_,⟨((TR.nil.add (ah (P:=fun t=>t.size≤8) (jaU _) (by intro r hr;simp only [az,ja2,jaZ,ja1,jaX,or_false] at hr;rcases hr with rfl|rfl|rfl <;> (first|decide|exact hT.pick _)) _)).add (ah (P:=fun t=>t.size≤8) (jaU _) (by intro r hr;simp only [az,ja2,jaZ,ja1,jaX,or_false] at hr;rcases hr with rfl|rfl|rfl <;> (first|decide|exact hT.pick _)) _)).app hT,(by rw [jaV];show 1≤2+l.length;omega),(by rw [jaV];show 2+l.length≤16;omega)⟩,rfl⟩)).1|refine (q234 _ _ _ _ ?_ ⟨_,⟨hT,hl1,(by omega)⟩,rfl⟩).1|refine (q236 _ _ _ _ ?_ ⟨⟨_,_,_,_⟩,⟨_,_,_,_⟩,rfl⟩).1|refine (q238 _ _ _ _ ?_ rfl).1|refine (q239 _ _ _ _ ?_ rfl).1)) ⟨⟨_,_,_,_⟩,⟨_,_,_,_⟩,rfl⟩).2 (ExOk _) (all2 ?_ ?_)|refine ExOk.mk (d:=3) kk5 kk0 (jbV rfl) (by first|exact (show (0:Nat)≤4 by decide)|exact (show (1:Nat)≤4 by decide)|exact (show (2:Nat)≤4 by decide)|exact (show (3:Nat)≤4 by decide)) rfl ?_|refine aS ?_ ?_|exact all0)))))
  | (refine ⟨(⟨_,_,_,_⟩,_,_),⟨?_,?_⟩,rfl,rfl,True.intro⟩;rotate_left;focus ((refine ExOk.mk (d:=4) kk7 kk0 (ah (P:=fun t=>t.size≤8) (jaU _) (by intro r hr;simp only [az,ja2,jaZ,ja1,jaX,or_false] at hr;rcases hr with rfl|rfl|rfl <;> (first|decide|exact hT.pick _)) _) (by first|exact (show (0:Nat)≤4 by decide)|exact (show (1:Nat)≤4 by decide)|exact (show (2:Nat)≤4 by decide)|exact (show (3:Nat)≤4 by decide)) rfl ?_;(repeat' (first|with_reducible exact all0|with_reducible refine aS ?_ ?_|refine (q234 _ _ _ _ ?_ ⟨_,⟨hT,hl1,(by omega)⟩,rfl⟩).2.mono (by decide)|refine (q208d1 _ _ _ _ ?_ (by first|exact ⟨_,⟨hT,hl1,(by omega)⟩,rfl⟩|exact ⟨_,⟨(TR.nil.add (ah (P:=fun t=>t.size≤8) (jaU _) (by intro r hr;simp only [az,ja2,jaZ,ja1,jaX,or_false] at hr;rcases hr with rfl|rfl|rfl <;> (first|decide|exact hT.pick _)) _)).app hT,(by rw [jaV];show 1≤1+l.length;omega),(by rw [jaV];show 1+l.length≤16;omega)⟩,rfl⟩|exact ⟨_,⟨((TR.nil.add (ah (P:=fun t=>t.size≤8) (jaU _) (by intro r hr;simp only [az,ja2,jaZ,ja1,jaX,or_false] at hr;rcases hr with rfl|rfl|rfl <;> (first|decide|exact hT.pick _)) _)).add (ah (P:=fun t=>t.size≤8) (jaU _) (by intro r hr;simp only [az,ja2,jaZ,ja1,jaX,or_false] at hr;rcases hr with rfl|rfl|rfl <;> (first|decide|exact hT.pick _)) _)).app hT,(by rw [jaV];show 1≤2+l.length;omega),(by rw [jaV];show 2+l.length≤16;omega)⟩,rfl⟩)).2.mono (by decide)|refine (q238 _ _ _ _ ?_ rfl).2.mono (by decide)|refine (q239 _ _ _ _ ?_ rfl).2.mono (by decide)|exact (ExOk.mk (d:=0) kk1 (ax (av ⟨by decide,by decide⟩)) (jaU _) (jaU _) rfl all0).mono (by decide)|exact (ExOk.mk (d:=0) kk1 (aK _ _) (jaU _) (jaU _) rfl all0).mono (by decide)|exact (ExOk.mk (d:=0) kk2 kk0 (ah (P:=fun t=>t.size≤8) (jaU _) (by intro r hr;simp only [az,ja2,jaZ,ja1,jaX,or_false] at hr;rcases hr with rfl|rfl|rfl <;> (first|decide|exact hT.pick _)) _) (jaU _) rfl all0).mono (by decide)|refine (q236 _ _ _ _ (by repeat (first|exact ok|exact ok1|exact ok2|refine am ?_|refine (q232 _ _ _ _ ?_ ⟨_,⟨hT,hl1,(by omega)⟩,rfl⟩).1|refine (q208d1 _ _ _ _ ?_ (by first|exact ⟨_,⟨hT,hl1,(by omega)⟩,rfl⟩|exact ⟨_,⟨(TR.nil.add (ah (P:=fun t=>t.size≤8) (jaU _) (by intro r hr;simp only [az,ja2,jaZ,ja1,jaX,or_false] at hr;rcases hr with rfl|rfl|rfl <;> (first|decide|exact hT.pick _)) _)).app hT,(by rw [jaV];show 1≤1+l.length;omega),(by rw [jaV];show 1+l.length≤16;omega)⟩,rfl⟩|exact ⟨_,⟨((TR.nil.add (ah (P:=fun t=>t.size≤8) (jaU _) (by intro r hr;simp only [az,ja2,jaZ,ja1,jaX,or_false] at hr;rcases hr with rfl|rfl|rfl <;> (first|decide|exact hT.pick _)) _)).add (ah (P:=fun t=>t.size≤8) (jaU _) (by intro r hr;simp only [az,ja2,jaZ,ja1,jaX,or_false] at hr;rcases hr with rfl|rfl|rfl <;> (first|decide|exact hT.pick _)) _)).app hT,(by rw [jaV];show 1≤2+l.length;omega),(by rw [jaV];show 2+l.length≤16;omega)⟩,rfl⟩)).1|refine (q234 _ _ _ _ ?_ ⟨_,⟨hT,hl1,(by omega)⟩,rfl⟩).1|refine (q236 _ _ _ _ ?_ ⟨⟨_,_,_,_⟩,⟨_,_,_,_⟩,rfl⟩).1|refine (q238 _ _ _ _ ?_ rfl).1|refine (q239 _ _ _ _ ?_ rfl).1)) ⟨⟨_,_,_,_⟩,⟨_,_,_,_⟩,rfl⟩).2 (ExOk _) (all2 ?_ ?_)|refine ExOk.mk (d:=3) kk5 kk0 (jbV rfl) (by first|exact (show (0:Nat)≤4 by decide)|exact (show (1:Nat)≤4 by decide)|exact (show (2:Nat)≤4 by decide)|exact (show (3:Nat)≤4 by decide)) rfl ?_|refine aS ?_ ?_|exact all0)))))
  | (refine ⟨(⟨_,_,_,_⟩,_,_),⟨?_,?_⟩,rfl,rfl,True.intro⟩;rotate_left;focus ((refine ExOk.mk (d:=4) kk9 kk0 (ah (P:=fun t=>t.size≤8) (jaU _) (by intro r hr;simp only [az,ja2,jaZ,ja1,jaX,or_false] at hr;rcases hr with rfl|rfl|rfl <;> (first|decide|exact hT.pick _)) _) (by first|exact (show (0:Nat)≤4 by decide)|exact (show (1:Nat)≤4 by decide)|exact (show (2:Nat)≤4 by decide)|exact (show (3:Nat)≤4 by decide)) rfl ?_;(repeat' (first|with_reducible exact all0|with_reducible refine aS ?_ ?_|refine (q234 _ _ _ _ ?_ ⟨_,⟨hT,hl1,(by omega)⟩,rfl⟩).2.mono (by decide)|refine (q208d1 _ _ _ _ ?_ (by first|exact ⟨_,⟨hT,hl1,(by omega)⟩,rfl⟩|exact ⟨_,⟨(TR.nil.add (ah (P:=fun t=>t.size≤8) (jaU _) (by intro r hr;simp only [az,ja2,jaZ,ja1,jaX,or_false] at hr;rcases hr with rfl|rfl|rfl <;> (first|decide|exact hT.pick _)) _)).app hT,(by rw [jaV];show 1≤1+l.length;omega),(by rw [jaV];show 1+l.length≤16;omega)⟩,rfl⟩|exact ⟨_,⟨((TR.nil.add (ah (P:=fun t=>t.size≤8) (jaU _) (by intro r hr;simp only [az,ja2,jaZ,ja1,jaX,or_false] at hr;rcases hr with rfl|rfl|rfl <;> (first|decide|exact hT.pick _)) _)).add (ah (P:=fun t=>t.size≤8) (jaU _) (by intro r hr;simp only [az,ja2,jaZ,ja1,jaX,or_false] at hr;rcases hr with rfl|rfl|rfl <;> (first|decide|exact hT.pick _)) _)).app hT,(by rw [jaV];show 1≤2+l.length;omega),(by rw [jaV];show 2+l.length≤16;omega)⟩,rfl⟩)).2.mono (by decide)|refine (q238 _ _ _ _ ?_ rfl).2.mono (by decide)|refine (q239 _ _ _ _ ?_ rfl).2.mono (by decide)|exact (ExOk.mk (d:=0) kk1 (ax (av ⟨by decide,by decide⟩)) (jaU _) (jaU _) rfl all0).mono (by decide)|exact (ExOk.mk (d:=0) kk1 (aK _ _) (jaU _) (jaU _) rfl all0).mono (by decide)|exact (ExOk.mk (d:=0) kk2 kk0 (ah (P:=fun t=>t.size≤8) (jaU _) (by intro r hr;simp only [az,ja2,jaZ,ja1,jaX,or_false] at hr;rcases hr with rfl|rfl|rfl <;> (first|decide|exact hT.pick _)) _) (jaU _) rfl all0).mono (by decide)|refine (q236 _ _ _ _ (by repeat (first|exact ok|exact ok1|exact ok2|refine am ?_|refine (q232 _ _ _ _ ?_ ⟨_,⟨hT,hl1,(by omega)⟩,rfl⟩).1|refine (q208d1 _ _ _ _ ?_ (by first|exact ⟨_,⟨hT,hl1,(by omega)⟩,rfl⟩|exact ⟨_,⟨(TR.nil.add (ah (P:=fun t=>t.size≤8) (jaU _) (by intro r hr;simp only [az,ja2,jaZ,ja1,jaX,or_false] at hr;rcases hr with rfl|rfl|rfl <;> (first|decide|exact hT.pick _)) _)).app hT,(by rw [jaV];show 1≤1+l.length;omega),(by rw [jaV];show 1+l.length≤16;omega)⟩,rfl⟩|exact ⟨_,⟨((TR.nil.add (ah (P:=fun t=>t.size≤8) (jaU _) (by intro r hr;simp only [az,ja2,jaZ,ja1,jaX,or_false] at hr;rcases hr with rfl|rfl|rfl <;> (first|decide|exact hT.pick _)) _)).add (ah (P:=fun t=>t.size≤8) (jaU _) (by intro r hr;simp only [az,ja2,jaZ,ja1,jaX,or_false] at hr;rcases hr with rfl|rfl|rfl <;> (first|decide|exact hT.pick _)) _)).app hT,(by rw [jaV];show 1≤2+l.length;omega),(by rw [jaV];show 2+l.length≤16;omega)⟩,rfl⟩)).1|refine (q234 _ _ _ _ ?_ ⟨_,⟨hT,hl1,(by omega)⟩,rfl⟩).1|refine (q236 _ _ _ _ ?_ ⟨⟨_,_,_,_⟩,⟨_,_,_,_⟩,rfl⟩).1|refine (q238 _ _ _ _ ?_ rfl).1|refine (q239 _ _ _ _ ?_ rfl).1)) ⟨⟨_,_,_,_⟩,⟨_,_,_,_⟩,rfl⟩).2 (ExOk _) (all2 ?_ ?_)|refine ExOk.mk (d:=3) kk5 kk0 (jbV rfl) (by first|exact (show (0:Nat)≤4 by decide)|exact (show (1:Nat)≤4 by decide)|exact (show (2:Nat)≤4 by decide)|exact (show (3:Nat)≤4 by decide)) rfl ?_|refine aS ?_ ?_|exact all0)))))
  | (refine ⟨(⟨_,_,_,_⟩,_,_),⟨?_,?_⟩,rfl,rfl,True.intro⟩;rotate_left;focus ((refine ExOk.mk (d:=4) kk8 kk0 (jaU _) (by first|exact (show (0:Nat)≤4 by decide)|exact (show (1:Nat)≤4 by decide)|exact (show (2:Nat)≤4 by decide)|exact (show (3:Nat)≤4 by decide)) rfl ?_;(repeat' (first|with_reducible exact all0|with_reducible refine aS ?_ ?_|refine (q234 _ _ _ _ ?_ ⟨_,⟨hT,hl1,(by omega)⟩,rfl⟩).2.mono (by decide)|refine (q208d1 _ _ _ _ ?_ (by first|exact ⟨_,⟨hT,hl1,(by omega)⟩,rfl⟩|exact ⟨_,⟨(TR.nil.add (ah (P:=fun t=>t.size≤8) (jaU _) (by intro r hr;simp only [az,ja2,jaZ,ja1,jaX,or_false] at hr;rcases hr with rfl|rfl|rfl <;> (first|decide|exact hT.pick _)) _)).app hT,(by rw [jaV];show 1≤1+l.length;omega),(by rw [jaV];show 1+l.length≤16;omega)⟩,rfl⟩|exact ⟨_,⟨((TR.nil.add (ah (P:=fun t=>t.size≤8) (jaU _) (by intro r hr;simp only [az,ja2,jaZ,ja1,jaX,or_false] at hr;rcases hr with rfl|rfl|rfl <;> (first|decide|exact hT.pick _)) _)).add (ah (P:=fun t=>t.size≤8) (jaU _) (by intro r hr;simp only [az,ja2,jaZ,ja1,jaX,or_false] at hr;rcases hr with rfl|rfl|rfl <;> (first|decide|exact hT.pick _)) _)).app hT,(by rw [jaV];show 1≤2+l.length;omega),(by rw [jaV];show 2+l.length≤16;omega)⟩,rfl⟩)).2.mono (by decide)|refine (q238 _ _ _ _ ?_ rfl).2.mono (by decide)|refine (q239 _ _ _ _ ?_ rfl).2.mono (by decide)|exact (ExOk.mk (d:=0) kk1 (ax (av ⟨by decide,by decide⟩)) (jaU _) (jaU _) rfl all0).mono (by decide)|exact (ExOk.mk (d:=0) kk1 (aK _ _) (jaU _) (jaU _) rfl all0).mono (by decide)|exact (ExOk.mk (d:=0) kk2 kk0 (ah (P:=fun t=>t.size≤8) (jaU _) (by intro r hr;simp only [az,ja2,jaZ,ja1,jaX,or_false] at hr;rcases hr with rfl|rfl|rfl <;> (first|decide|exact hT.pick _)) _) (jaU _) rfl all0).mono (by decide)|refine (q236 _ _ _ _ (by repeat (first|exact ok|exact ok1|exact ok2|refine am ?_|refine (q232 _ _ _ _ ?_ ⟨_,⟨hT,hl1,(by omega)⟩,rfl⟩).1|refine (q208d1 _ _ _ _ ?_ (by first|exact ⟨_,⟨hT,hl1,(by omega)⟩,rfl⟩|exact ⟨_,⟨(TR.nil.add (ah (P:=fun t=>t.size≤8) (jaU _) (by intro r hr;simp only [az,ja2,jaZ,ja1,jaX,or_false] at hr;rcases hr with rfl|rfl|rfl <;> (first|decide|exact hT.pick _)) _)).app hT,(by rw [jaV];show 1≤1+l.length;omega),(by rw [jaV];show 1+l.length≤16;omega)⟩,rfl⟩|exact ⟨_,⟨((TR.nil.add (ah (P:=fun t=>t.size≤8) (jaU _) (by intro r hr;simp only [az,ja2,jaZ,ja1,jaX,or_false] at hr;rcases hr with rfl|rfl|rfl <;> (first|decide|exact hT.pick _)) _)).add (ah (P:=fun t=>t.size≤8) (jaU _) (by intro r hr;simp only [az,ja2,jaZ,ja1,jaX,or_false] at hr;rcases hr with rfl|rfl|rfl <;> (first|decide|exact hT.pick _)) _)).app hT,(by rw [jaV];show 1≤2+l.length;omega),(by rw [jaV];show 2+l.length≤16;omega)⟩,rfl⟩)).1|refine (q234 _ _ _ _ ?_ ⟨_,⟨hT,hl1,(by omega)⟩,rfl⟩).1|refine (q236 _ _ _ _ ?_ ⟨⟨_,_,_,_⟩,⟨_,_,_,_⟩,rfl⟩).1|refine (q238 _ _ _ _ ?_ rfl).1|refine (q239 _ _ _ _ ?_ rfl).1)) ⟨⟨_,_,_,_⟩,⟨_,_,_,_⟩,rfl⟩).2 (ExOk _) (all2 ?_ ?_)|refine ExOk.mk (d:=3) kk5 kk0 (jbV rfl) (by first|exact (show (0:Nat)≤4 by decide)|exact (show (1:Nat)≤4 by decide)|exact (show (2:Nat)≤4 by decide)|exact (show (3:Nat)≤4 by decide)) rfl ?_|refine aS ?_ ?_|exact all0)))))
  | (refine ⟨(⟨_,_,_,_⟩,_,_),⟨?_,?_⟩,rfl,rfl,True.intro⟩;rotate_left;focus (refine (q234 _ _ _ _ ?_ ⟨_,⟨hT,hl1,(by omega)⟩,rfl⟩).2.mono (by decide)))
  | (refine ⟨(⟨_,_,_,_⟩,_,_),⟨?_,?_⟩,rfl,rfl,True.intro⟩;rotate_left;focus ((refine ExOk.mk (d:=4) kk5 kk0 (jbV rfl) (by first|exact (show (0:Nat)≤4 by decide)|exact (show (1:Nat)≤4 by decide)|exact (show (2:Nat)≤4 by decide)|exact (show (3:Nat)≤4 by decide)) rfl ?_;(repeat' (first|with_reducible exact all0|with_reducible refine aS ?_ ?_|refine (q234 _ _ _ _ ?_ ⟨_,⟨hT,hl1,(by omega)⟩,rfl⟩).2.mono (by decide)|refine (q208d1 _ _ _ _ ?_ (by first|exact ⟨_,⟨hT,hl1,(by omega)⟩,rfl⟩|exact ⟨_,⟨(TR.nil.add (ah (P:=fun t=>t.size≤8) (jaU _) (by intro r hr;simp only [az,ja2,jaZ,ja1,jaX,or_false] at hr;rcases hr with rfl|rfl|rfl <;> (first|decide|exact hT.pick _)) _)).app hT,(by rw [jaV];show 1≤1+l.length;omega),(by rw [jaV];show 1+l.length≤16;omega)⟩,rfl⟩|exact ⟨_,⟨((TR.nil.add (ah (P:=fun t=>t.size≤8) (jaU _) (by intro r hr;simp only [az,ja2,jaZ,ja1,jaX,or_false] at hr;rcases hr with rfl|rfl|rfl <;> (first|decide|exact hT.pick _)) _)).add (ah (P:=fun t=>t.size≤8) (jaU _) (by intro r hr;simp only [az,ja2,jaZ,ja1,jaX,or_false] at hr;rcases hr with rfl|rfl|rfl <;> (first|decide|exact hT.pick _)) _)).app hT,(by rw [jaV];show 1≤2+l.length;omega),(by rw [jaV];show 2+l.length≤16;omega)⟩,rfl⟩)).2.mono (by decide)|refine (q238 _ _ _ _ ?_ rfl).2.mono (by decide)|refine (q239 _ _ _ _ ?_ rfl).2.mono (by decide)|exact (ExOk.mk (d:=0) kk1 (ax (av ⟨by decide,by decide⟩)) (jaU _) (jaU _) rfl all0).mono (by decide)|exact (ExOk.mk (d:=0) kk1 (aK _ _) (jaU _) (jaU _) rfl all0).mono (by decide)|exact (ExOk.mk (d:=0) kk2 kk0 (ah (P:=fun t=>t.size≤8) (jaU _) (by intro r hr;simp only [az,ja2,jaZ,ja1,jaX,or_false] at hr;rcases hr with rfl|rfl|rfl <;> (first|decide|exact hT.pick _)) _) (jaU _) rfl all0).mono (by decide)|refine (q236 _ _ _ _ (by repeat (first|exact ok|exact ok1|exact ok2|refine am ?_|refine (q232 _ _ _ _ ?_ ⟨_,⟨hT,hl1,(by omega)⟩,rfl⟩).1|refine (q208d1 _ _ _ _ ?_ (by first|exact ⟨_,⟨hT,hl1,(by omega)⟩,rfl⟩|exact ⟨_,⟨(TR.nil.add (ah (P:=fun t=>t.size≤8) (jaU _) (by intro r hr;simp only [az,ja2,jaZ,ja1,jaX,or_false] at hr;rcases hr with rfl|rfl|rfl <;> (first|decide|exact hT.pick _)) _)).app hT,(by rw [jaV];show 1≤1+l.length;omega),(by rw [jaV];show 1+l.length≤16;omega)⟩,rfl⟩|exact ⟨_,⟨((TR.nil.add (ah (P:=fun t=>t.size≤8) (jaU _) (by intro r hr;simp only [az,ja2,jaZ,ja1,jaX,or_false] at hr;rcases hr with rfl|rfl|rfl <;> (first|decide|exact hT.pick _)) _)).add (ah (P:=fun t=>t.size≤8) (jaU _) (by intro r hr;simp only [az,ja2,jaZ,ja1,jaX,or_false] at hr;rcases hr with rfl|rfl|rfl <;> (first|decide|exact hT.pick _)) _)).app hT,(by rw [jaV];show 1≤2+l.length;omega),(by rw [jaV];show 2+l.length≤16;omega)⟩,rfl⟩)).1|refine (q234 _ _ _ _ ?_ ⟨_,⟨hT,hl1,(by omega)⟩,rfl⟩).1|refine (q236 _ _ _ _ ?_ ⟨⟨_,_,_,_⟩,⟨_,_,_,_⟩,rfl⟩).1|refine (q238 _ _ _ _ ?_ rfl).1|refine (q239 _ _ _ _ ?_ rfl).1)) ⟨⟨_,_,_,_⟩,⟨_,_,_,_⟩,rfl⟩).2 (ExOk _) (all2 ?_ ?_)|refine ExOk.mk (d:=3) kk5 kk0 (jbV rfl) (by first|exact (show (0:Nat)≤4 by decide)|exact (show (1:Nat)≤4 by decide)|exact (show (2:Nat)≤4 by decide)|exact (show (3:Nat)≤4 by decide)) rfl ?_|refine aS ?_ ?_|exact all0)))))
  | (refine ⟨(⟨_,_,_,_⟩,_,_),⟨?_,?_⟩,rfl,rfl,True.intro⟩;rotate_left;focus ((refine ExOk.mk (d:=4) kk5 kk0 (ah (P:=fun t=>t.size≤8) (jaU _) (by intro r hr;simp only [az,ja2,jaZ,ja1,jaX,or_false] at hr;rcases hr with rfl|rfl <;> (first|decide|exact hT.pick _)) _) (by first|exact (show (0:Nat)≤4 by decide)|exact (show (1:Nat)≤4 by decide)|exact (show (2:Nat)≤4 by decide)|exact (show (3:Nat)≤4 by decide)) rfl ?_;(repeat' (first|with_reducible exact all0|with_reducible refine aS ?_ ?_|refine (q234 _ _ _ _ ?_ ⟨_,⟨hT,hl1,(by omega)⟩,rfl⟩).2.mono (by decide)|refine (q208d1 _ _ _ _ ?_ (by first|exact ⟨_,⟨hT,hl1,(by omega)⟩,rfl⟩|exact ⟨_,⟨(TR.nil.add (ah (P:=fun t=>t.size≤8) (jaU _) (by intro r hr;simp only [az,ja2,jaZ,ja1,jaX,or_false] at hr;rcases hr with rfl|rfl|rfl <;> (first|decide|exact hT.pick _)) _)).app hT,(by rw [jaV];show 1≤1+l.length;omega),(by rw [jaV];show 1+l.length≤16;omega)⟩,rfl⟩|exact ⟨_,⟨((TR.nil.add (ah (P:=fun t=>t.size≤8) (jaU _) (by intro r hr;simp only [az,ja2,jaZ,ja1,jaX,or_false] at hr;rcases hr with rfl|rfl|rfl <;> (first|decide|exact hT.pick _)) _)).add (ah (P:=fun t=>t.size≤8) (jaU _) (by intro r hr;simp only [az,ja2,jaZ,ja1,jaX,or_false] at hr;rcases hr with rfl|rfl|rfl <;> (first|decide|exact hT.pick _)) _)).app hT,(by rw [jaV];show 1≤2+l.length;omega),(by rw [jaV];show 2+l.length≤16;omega)⟩,rfl⟩)).2.mono (by decide)|refine (q238 _ _ _ _ ?_ rfl).2.mono (by decide)|refine (q239 _ _ _ _ ?_ rfl).2.mono (by decide)|exact (ExOk.mk (d:=0) kk1 (ax (av ⟨by decide,by decide⟩)) (jaU _) (jaU _) rfl all0).mono (by decide)|exact (ExOk.mk (d:=0) kk1 (aK _ _) (jaU _) (jaU _) rfl all0).mono (by decide)|exact (ExOk.mk (d:=0) kk2 kk0 (ah (P:=fun t=>t.size≤8) (jaU _) (by intro r hr;simp only [az,ja2,jaZ,ja1,jaX,or_false] at hr;rcases hr with rfl|rfl|rfl <;> (first|decide|exact hT.pick _)) _) (jaU _) rfl all0).mono (by decide)|refine (q236 _ _ _ _ (by repeat (first|exact ok|exact ok1|exact ok2|refine am ?_|refine (q232 _ _ _ _ ?_ ⟨_,⟨hT,hl1,(by omega)⟩,rfl⟩).1|refine (q208d1 _ _ _ _ ?_ (by first|exact ⟨_,⟨hT,hl1,(by omega)⟩,rfl⟩|exact ⟨_,⟨(TR.nil.add (ah (P:=fun t=>t.size≤8) (jaU _) (by intro r hr;simp only [az,ja2,jaZ,ja1,jaX,or_false] at hr;rcases hr with rfl|rfl|rfl <;> (first|decide|exact hT.pick _)) _)).app hT,(by rw [jaV];show 1≤1+l.length;omega),(by rw [jaV];show 1+l.length≤16;omega)⟩,rfl⟩|exact ⟨_,⟨((TR.nil.add (ah (P:=fun t=>t.size≤8) (jaU _) (by intro r hr;simp only [az,ja2,jaZ,ja1,jaX,or_false] at hr;rcases hr with rfl|rfl|rfl <;> (first|decide|exact hT.pick _)) _)).add (ah (P:=fun t=>t.size≤8) (jaU _) (by intro r hr;simp only [az,ja2,jaZ,ja1,jaX,or_false] at hr;rcases hr with rfl|rfl|rfl <;> (first|decide|exact hT.pick _)) _)).app hT,(by rw [jaV];show 1≤2+l.length;omega),(by rw [jaV];show 2+l.length≤16;omega)⟩,rfl⟩)).1|refine (q234 _ _ _ _ ?_ ⟨_,⟨hT,hl1,(by omega)⟩,rfl⟩).1|refine (q236 _ _ _ _ ?_ ⟨⟨_,_,_,_⟩,⟨_,_,_,_⟩,rfl⟩).1|refine (q238 _ _ _ _ ?_ rfl).1|refine (q239 _ _ _ _ ?_ rfl).1)) ⟨⟨_,_,_,_⟩,⟨_,_,_,_⟩,rfl⟩).2 (ExOk _) (all2 ?_ ?_)|refine ExOk.mk (d:=3) kk5 kk0 (jbV rfl) (by first|exact (show (0:Nat)≤4 by decide)|exact (show (1:Nat)≤4 by decide)|exact (show (2:Nat)≤4 by decide)|exact (show (3:Nat)≤4 by decide)) rfl ?_|refine aS ?_ ?_|exact all0)))))
  | (refine ⟨(⟨_,_,_,_⟩,_,_),⟨?_,?_⟩,rfl,rfl,True.intro⟩;rotate_left;focus ((refine ExOk.mk (d:=4) kk5 kk0 (ah (P:=fun t=>t.size≤8) (jaU _) (by intro r hr;simp only [az,ja2,jaZ,ja1,jaX,or_false] at hr;rcases hr with rfl|rfl|rfl|rfl <;> (first|decide|exact hT.pick _)) _) (by first|exact (show (0:Nat)≤4 by decide)|exact (show (1:Nat)≤4 by decide)|exact (show (2:Nat)≤4 by decide)|exact (show (3:Nat)≤4 by decide)) rfl ?_;(repeat' (first|with_reducible exact all0|with_reducible refine aS ?_ ?_|refine (q234 _ _ _ _ ?_ ⟨_,⟨hT,hl1,(by omega)⟩,rfl⟩).2.mono (by decide)|refine (q208d1 _ _ _ _ ?_ (by first|exact ⟨_,⟨hT,hl1,(by omega)⟩,rfl⟩|exact ⟨_,⟨(TR.nil.add (ah (P:=fun t=>t.size≤8) (jaU _) (by intro r hr;simp only [az,ja2,jaZ,ja1,jaX,or_false] at hr;rcases hr with rfl|rfl|rfl <;> (first|decide|exact hT.pick _)) _)).app hT,(by rw [jaV];show 1≤1+l.length;omega),(by rw [jaV];show 1+l.length≤16;omega)⟩,rfl⟩|exact ⟨_,⟨((TR.nil.add (ah (P:=fun t=>t.size≤8) (jaU _) (by intro r hr;simp only [az,ja2,jaZ,ja1,jaX,or_false] at hr;rcases hr with rfl|rfl|rfl <;> (first|decide|exact hT.pick _)) _)).add (ah (P:=fun t=>t.size≤8) (jaU _) (by intro r hr;simp only [az,ja2,jaZ,ja1,jaX,or_false] at hr;rcases hr with rfl|rfl|rfl <;> (first|decide|exact hT.pick _)) _)).app hT,(by rw [jaV];show 1≤2+l.length;omega),(by rw [jaV];show 2+l.length≤16;omega)⟩,rfl⟩)).2.mono (by decide)|refine (q238 _ _ _ _ ?_ rfl).2.mono (by decide)|refine (q239 _ _ _ _ ?_ rfl).2.mono (by decide)|exact (ExOk.mk (d:=0) kk1 (ax (av ⟨by decide,by decide⟩)) (jaU _) (jaU _) rfl all0).mono (by decide)|exact (ExOk.mk (d:=0) kk1 (aK _ _) (jaU _) (jaU _) rfl all0).mono (by decide)|exact (ExOk.mk (d:=0) kk2 kk0 (ah (P:=fun t=>t.size≤8) (jaU _) (by intro r hr;simp only [az,ja2,jaZ,ja1,jaX,or_false] at hr;rcases hr with rfl|rfl|rfl <;> (first|decide|exact hT.pick _)) _) (jaU _) rfl all0).mono (by decide)|refine (q236 _ _ _ _ (by repeat (first|exact ok|exact ok1|exact ok2|refine am ?_|refine (q232 _ _ _ _ ?_ ⟨_,⟨hT,hl1,(by omega)⟩,rfl⟩).1|refine (q208d1 _ _ _ _ ?_ (by first|exact ⟨_,⟨hT,hl1,(by omega)⟩,rfl⟩|exact ⟨_,⟨(TR.nil.add (ah (P:=fun t=>t.size≤8) (jaU _) (by intro r hr;simp only [az,ja2,jaZ,ja1,jaX,or_false] at hr;rcases hr with rfl|rfl|rfl <;> (first|decide|exact hT.pick _)) _)).app hT,(by rw [jaV];show 1≤1+l.length;omega),(by rw [jaV];show 1+l.length≤16;omega)⟩,rfl⟩|exact ⟨_,⟨((TR.nil.add (ah (P:=fun t=>t.size≤8) (jaU _) (by intro r hr;simp only [az,ja2,jaZ,ja1,jaX,or_false] at hr;rcases hr with rfl|rfl|rfl <;> (first|decide|exact hT.pick _)) _)).add (ah (P:=fun t=>t.size≤8) (jaU _) (by intro r hr;simp only [az,ja2,jaZ,ja1,jaX,or_false] at hr;rcases hr with rfl|rfl|rfl <;> (first|decide|exact hT.pick _)) _)).app hT,(by rw [jaV];show 1≤2+l.length;omega),(by rw [jaV];show 2+l.length≤16;omega)⟩,rfl⟩)).1|refine (q234 _ _ _ _ ?_ ⟨_,⟨hT,hl1,(by omega)⟩,rfl⟩).1|refine (q236 _ _ _ _ ?_ ⟨⟨_,_,_,_⟩,⟨_,_,_,_⟩,rfl⟩).1|refine (q238 _ _ _ _ ?_ rfl).1|refine (q239 _ _ _ _ ?_ rfl).1)) ⟨⟨_,_,_,_⟩,⟨_,_,_,_⟩,rfl⟩).2 (ExOk _) (all2 ?_ ?_)|refine ExOk.mk (d:=3) kk5 kk0 (jbV rfl) (by first|exact (show (0:Nat)≤4 by decide)|exact (show (1:Nat)≤4 by decide)|exact (show (2:Nat)≤4 by decide)|exact (show (3:Nat)≤4 by decide)) rfl ?_|refine aS ?_ ?_|exact all0)))))
  | (refine ⟨(⟨_,_,_,_⟩,_,_),⟨?_,?_⟩,rfl,rfl,True.intro⟩;rotate_left;focus ((refine ((q236 _ _ _ _ (by repeat (first|exact ok|exact ok1|exact ok2|refine am ?_|refine (q232 _ _ _ _ ?_ ⟨_,⟨hT,hl1,(by omega)⟩,rfl⟩).1|refine (q208d1 _ _ _ _ ?_ (by first|exact ⟨_,⟨hT,hl1,(by omega)⟩,rfl⟩|exact ⟨_,⟨(TR.nil.add (ah (P:=fun t=>t.size≤8) (jaU _) (by intro r hr;simp only [az,ja2,jaZ,ja1,jaX,or_false] at hr;rcases hr with rfl|rfl|rfl <;> (first|decide|exact hT.pick _)) _)).app hT,(by rw [jaV];show 1≤1+l.length;omega),(by rw [jaV];show 1+l.length≤16;omega)⟩,rfl⟩|exact ⟨_,⟨((TR.nil.add (ah (P:=fun t=>t.size≤8) (jaU _) (by intro r hr;simp only [az,ja2,jaZ,ja1,jaX,or_false] at hr;rcases hr with rfl|rfl|rfl <;> (first|decide|exact hT.pick _)) _)).add (ah (P:=fun t=>t.size≤8) (jaU _) (by intro r hr;simp only [az,ja2,jaZ,ja1,jaX,or_false] at hr;rcases hr with rfl|rfl|rfl <;> (first|decide|exact hT.pick _)) _)).app hT,(by rw [jaV];show 1≤2+l.length;omega),(by rw [jaV];show 2+l.length≤16;omega)⟩,rfl⟩)).1|refine (q234 _ _ _ _ ?_ ⟨_,⟨hT,hl1,(by omega)⟩,rfl⟩).1|refine (q236 _ _ _ _ ?_ ⟨⟨_,_,_,_⟩,⟨_,_,_,_⟩,rfl⟩).1|refine (q238 _ _ _ _ ?_ rfl).1|refine (q239 _ _ _ _ ?_ rfl).1)) ⟨⟨_,_,_,_⟩,⟨_,_,_,_⟩,rfl⟩).2 (ExOk _) (all2 ?_ ?_):ExOk 4 _).mono (by decide);(repeat' (first|with_reducible exact all0|with_reducible refine aS ?_ ?_|refine (q234 _ _ _ _ ?_ ⟨_,⟨hT,hl1,(by omega)⟩,rfl⟩).2.mono (by decide)|refine (q208d1 _ _ _ _ ?_ (by first|exact ⟨_,⟨hT,hl1,(by omega)⟩,rfl⟩|exact ⟨_,⟨(TR.nil.add (ah (P:=fun t=>t.size≤8) (jaU _) (by intro r hr;simp only [az,ja2,jaZ,ja1,jaX,or_false] at hr;rcases hr with rfl|rfl|rfl <;> (first|decide|exact hT.pick _)) _)).app hT,(by rw [jaV];show 1≤1+l.length;omega),(by rw [jaV];show 1+l.length≤16;omega)⟩,rfl⟩|exact ⟨_,⟨((TR.nil.add (ah (P:=fun t=>t.size≤8) (jaU _) (by intro r hr;simp only [az,ja2,jaZ,ja1,jaX,or_false] at hr;rcases hr with rfl|rfl|rfl <;> (first|decide|exact hT.pick _)) _)).add (ah (P:=fun t=>t.size≤8) (jaU _) (by intro r hr;simp only [az,ja2,jaZ,ja1,jaX,or_false] at hr;rcases hr with rfl|rfl|rfl <;> (first|decide|exact hT.pick _)) _)).app hT,(by rw [jaV];show 1≤2+l.length;omega),(by rw [jaV];show 2+l.length≤16;omega)⟩,rfl⟩)).2.mono (by decide)|refine (q238 _ _ _ _ ?_ rfl).2.mono (by decide)|refine (q239 _ _ _ _ ?_ rfl).2.mono (by decide)|exact (ExOk.mk (d:=0) kk1 (ax (av ⟨by decide,by decide⟩)) (jaU _) (jaU _) rfl all0).mono (by decide)|exact (ExOk.mk (d:=0) kk1 (aK _ _) (jaU _) (jaU _) rfl all0).mono (by decide)|exact (ExOk.mk (d:=0) kk2 kk0 (ah (P:=fun t=>t.size≤8) (jaU _) (by intro r hr;simp only [az,ja2,jaZ,ja1,jaX,or_false] at hr;rcases hr with rfl|rfl|rfl <;> (first|decide|exact hT.pick _)) _) (jaU _) rfl all0).mono (by decide)|refine (q236 _ _ _ _ (by repeat (first|exact ok|exact ok1|exact ok2|refine am ?_|refine (q232 _ _ _ _ ?_ ⟨_,⟨hT,hl1,(by omega)⟩,rfl⟩).1|refine (q208d1 _ _ _ _ ?_ (by first|exact ⟨_,⟨hT,hl1,(by omega)⟩,rfl⟩|exact ⟨_,⟨(TR.nil.add (ah (P:=fun t=>t.size≤8) (jaU _) (by intro r hr;simp only [az,ja2,jaZ,ja1,jaX,or_false] at hr;rcases hr with rfl|rfl|rfl <;> (first|decide|exact hT.pick _)) _)).app hT,(by rw [jaV];show 1≤1+l.length;omega),(by rw [jaV];show 1+l.length≤16;omega)⟩,rfl⟩|exact ⟨_,⟨((TR.nil.add (ah (P:=fun t=>t.size≤8) (jaU _) (by intro r hr;simp only [az,ja2,jaZ,ja1,jaX,or_false] at hr;rcases hr with rfl|rfl|rfl <;> (first|decide|exact hT.pick _)) _)).add (ah (P:=fun t=>t.size≤8) (jaU _) (by intro r hr;simp only [az,ja2,jaZ,ja1,jaX,or_false] at hr;rcases hr with rfl|rfl|rfl <;> (first|decide|exact hT.pick _)) _)).app hT,(by rw [jaV];show 1≤2+l.length;omega),(by rw [jaV];show 2+l.length≤16;omega)⟩,rfl⟩)).1|refine (q234 _ _ _ _ ?_ ⟨_,⟨hT,hl1,(by omega)⟩,rfl⟩).1|refine (q236 _ _ _ _ ?_ ⟨⟨_,_,_,_⟩,⟨_,_,_,_⟩,rfl⟩).1|refine (q238 _ _ _ _ ?_ rfl).1|refine (q239 _ _ _ _ ?_ rfl).1)) ⟨⟨_,_,_,_⟩,⟨_,_,_,_⟩,rfl⟩).2 (ExOk _) (all2 ?_ ?_)|refine ExOk.mk (d:=3) kk5 kk0 (jbV rfl) (by first|exact (show (0:Nat)≤4 by decide)|exact (show (1:Nat)≤4 by decide)|exact (show (2:Nat)≤4 by decide)|exact (show (3:Nat)≤4 by decide)) rfl ?_|refine aS ?_ ?_|exact all0)))))
  | skip
 all_goals repeat (first|exact ok|exact ok1|exact ok2|refine am ?_|refine (q232 _ _ _ _ ?_ ⟨_,⟨hT,hl1,(by omega)⟩,rfl⟩).1|refine (q208d1 _ _ _ _ ?_ (by first|exact ⟨_,⟨hT,hl1,(by omega)⟩,rfl⟩|exact ⟨_,⟨(TR.nil.add (ah (P:=fun t=>t.size≤8) (jaU _) (by intro r hr;simp only [az,ja2,jaZ,ja1,jaX,or_false] at hr;rcases hr with rfl|rfl|rfl <;> (first|decide|exact hT.pick _)) _)).app hT,(by rw [jaV];show 1≤1+l.length;omega),(by rw [jaV];show 1+l.length≤16;omega)⟩,rfl⟩|exact ⟨_,⟨((TR.nil.add (ah (P:=fun t=>t.size≤8) (jaU _) (by intro r hr;simp only [az,ja2,jaZ,ja1,jaX,or_false] at hr;rcases hr with rfl|rfl|rfl <;> (first|decide|exact hT.pick _)) _)).add (ah (P:=fun t=>t.size≤8) (jaU _) (by intro r hr;simp only [az,ja2,jaZ,ja1,jaX,or_false] at hr;rcases hr with rfl|rfl|rfl <;> (first|decide|exact hT.pick _)) _)).app hT,(by rw [jaV];show 1≤2+l.length;omega),(by rw [jaV];show 2+l.length≤16;omega)⟩,rfl⟩)).1|refine (q234 _ _ _ _ ?_ ⟨_,⟨hT,hl1,(by omega)⟩,rfl⟩).1|refine (q236 _ _ _ _ ?_ ⟨⟨_,_,_,_⟩,⟨_,_,_,_⟩,rfl⟩).1|refine (q238 _ _ _ _ ?_ rfl).1|refine (q239 _ _ _ _ ?_ rfl).1)
end Go.Proofs.YtkpnfbdoaljkpaaGreatDoor.Ab
