/- A part. -/
import Derived.Test.YtdjfhmghebommaaGreatDoorDVb
namespace Go.Proofs.YtdjfhmghebommaaGreatDoor.Ab
open Go.RowKit
set_option linter.all false
set_option maxRecDepth 100000
set_option maxHeartbeats 1000000
theorem anyS151 (n:Nat) (g151:List SV→Int) (hn:FOk Tryz.prog T 151 { pre:=fun args=>∃ a:List D,WfRow T cV a∧SizeOf.sizeOf a < n∧args=[argG cV a],res:=fun args=>.val false [.i .i64 (g151 args)] }):∃ g:List SV→Int,FOk Tryz.prog T 151 { pre:=fun args=>∃ a:List D,WfRow T cV a∧SizeOf.sizeOf a < n+1∧args=[argG cV a],res:=fun args=>.val false [.i .i64 (g args)] }∧∀ args,(fun args=>∃ a:List D,WfRow T cV a∧SizeOf.sizeOf a < n+1∧args=[argG cV a]) args→(∀ a ∈ args,WfSV T a)→(fun _ _=>True) args (g args):=by
 refine fokA (fun _ x=>.val false [.i .i64 x]) (post:=fun _ _=>True) (env:=envL [(151, { pre:=fun args=>∃ a:List D,WfRow T cV a∧SizeOf.sizeOf a < n∧args=[argG cV a],res:=fun args=>.val false [.i .i64 (g151 args)] }),(114,jaa)]) (N:=22) tabT (ac hn (ac ok114 af)) mixed Tryz.func151 rfl Tryz.call151 Tryz.ntmps151 ?_
 rintro args ⟨a,wa,hs,rfl⟩ hwf
 refine ⟨by simp,?_⟩
 rw [Tryz.results151]
 have wA:WfD T (.l 53) (.l (a.getD 4 default).rows):=wa.rows (j:=4) rfl
 have la:=wA.len
 repeat' first
  | refine And.intro ?_ ?_
  | (intro h;cases h)
  | (intro h;rw [h])
  | intro h
 all_goals first
  | (show aa _=true;kernel_rfl)|(show am _ _=true;kernel_rfl)|exact True.intro|exact rfl|exact Or.inr rfl|exact Or.inl rfl
  | exact ⟨_,trivial,rfl,trivial⟩
  | exact ⟨_,rfl⟩
  | exact ⟨_,_,rfl⟩
  | exact ⟨_,_,_,rfl⟩
  | exact ⟨_,wa,rfl⟩
  | skip
 refine ap (Q:=_) [1,3,4] [1] (fun n q=>∃ (i z:Int),q=([.ptr 1 1 0,.val false [.i .i64 z],.val false [.i .i64 i]],[(1,(rowC cV a).map fun c=>.val false [c])])∧0≤i∧i≤(a.getD 4 default).rows.length∧n=(a.getD 4 default).rows.length - i.toNat) ?_ ?_
 · exact ⟨rfl,(a.getD 4 default).rows.length - 0,0,0,rfl,by omega,by omega,rfl⟩
 rintro n q ⟨i,z,rfl,h1,h2,h3⟩
 repeat' first
  | refine And.intro ?_ ?_
  | (intro h;cases h)
  | (intro h;rw [h])
  | intro h
 all_goals first
  | (show aa _=true;kernel_rfl)|(show am _ _=true;kernel_rfl)|exact True.intro|exact rfl|exact Or.inr rfl|exact Or.inl rfl
  | exact ⟨_,trivial,rfl,trivial⟩
  | exact ⟨_,rfl⟩
  | exact ⟨_,_,rfl⟩
  | exact ⟨_,_,_,rfl⟩
  | exact ⟨_,wa,rfl⟩
  | omega
  | exact jbO ‹_›
  | (have hi:i < ((a.getD 4 default).rows.length:Int):=jbO ‹decide (i < ((a.getD 4 default).rows.length:Int))=true›
     exact ⟨(a.getD 4 default).rows.length - (i+1).toNat,by omega,i+1,_,snapN (fun z j=>(([.ptr 1 1 0,.val false [.i .i64 z],.val false [.i .i64 j]],[(1,(rowC cV a).map fun c=>.val false [c])]))) _ h1 hi la,by omega,by omega,rfl⟩)
  | (have hi:i < ((a.getD 4 default).rows.length:Int):=jbO ‹decide (i < ((a.getD 4 default).rows.length:Int))=true›
     have wr:WfRow T cV ((a.getD 4 default).rows.getD i.toNat []):=wA.row rfl (by omega)
     first
      | exact ⟨_,wr,rfl⟩
      | exact ⟨_,wr,jcM (Nat.lt_trans (cP (by omega)) (cj (by rw [wa.1];decide))) (jdG hs),rfl⟩)
theorem anyZ151:∃ g:List SV→Int,FOk Tryz.prog T 151 { pre:=fun args=>∃ a:List D,WfRow T cV a∧SizeOf.sizeOf a < 0∧args=[argG cV a],res:=fun args=>.val false [.i .i64 (g args)] }:=by
 refine ⟨fun _=>default,fok (env:=envL []) (N:=22) tabT af mixed Tryz.func151 rfl Tryz.call151 Tryz.ntmps151 ?_⟩
 rintro args ⟨a,wa,hs,rfl⟩ _
 exact absurd hs (jcE _)
theorem any151:∃ g:List SV→Int,FOk Tryz.prog T 151 { pre:=fun args=>∃ a:List D,WfRow T cV a∧args=[argG cV a],res:=fun args=>.val false [.i .i64 (g args)] }∧∀ args,(fun args=>∃ a:List D,WfRow T cV a∧args=[argG cV a]) args→(∀ a ∈ args,WfSV T a)→True:=by
 refine ja2 (fun _ x=>.val false [.i .i64 x]) (post:=fun _ _=>True) (pre:=fun n args=>∃ a:List D,WfRow T cV a∧SizeOf.sizeOf a < n∧args=[argG cV a]) (fun n=>?_) (fun args ⟨a,wa,h⟩=>⟨SizeOf.sizeOf a+1,a,wa,jcO _,h⟩)
 induction n with
 | zero =>
   obtain ⟨g,hg⟩:=anyZ151
   exact ⟨g,hg,fun _ _ _=>trivial⟩
 | succ n ih =>
   obtain ⟨g,hg,_⟩:=ih
   exact anyS151 n g hg
noncomputable def g151:List SV→Int:=any151.choose
noncomputable def zY:FSpec:={ pre:=fun args=>∃ a:List D,WfRow T cV a∧args=[argG cV a],res:=fun args=>.val false [.i .i64 (g151 args)] }
theorem ok151:FOk Tryz.prog T 151 zY:=any151.choose_spec.1
theorem any119:∃ g:List SV→Bool,FOk Tryz.prog T 119 { pre:=fun args=>∃ a:List D,WfRow T cV a∧args=[argG cV a],res:=fun args=>.val false [.b (g args)] }∧∀ args,(fun args=>∃ a:List D,WfRow T cV a∧args=[argG cV a]) args→(∀ a ∈ args,WfSV T a)→True:=by
 refine fokA (fun _ x=>.val false [.b x]) (post:=fun _ _=>True) (env:=envL [(152,zX),(153,zW),(88,jb)]) (N:=55) tabT (ac ok152 (ac ok153 (ac ok88 af))) mixed Tryz.func119 rfl Tryz.call119 Tryz.ntmps119 ?_
 rintro args ⟨a,wa,rfl⟩ hwf
 have wA:WfD T (.l 126) (.l (a.getD 6 default).rows):=wa.rows (j:=6) rfl
 have la:=wA.len
 refine ⟨by simp,?_⟩
 rw [Tryz.results119]
 repeat' first
  | refine And.intro ?_ ?_
  | (intro h;cases h)
  | (intro h;rw [h])
  | intro h
 all_goals first
  | (show aa _=true;kernel_rfl)|(show am _ _=true;kernel_rfl)|exact True.intro|exact rfl|exact Or.inr rfl|exact Or.inl rfl
  | exact ⟨_,trivial,rfl,trivial⟩
  | exact ⟨_,rfl⟩
  | skip
 refine ap (Q:=_) [1,3] [1] (fun n q=>∃ i:Int,q=([.ptr 1 1 0,.val false [.i .i64 i]],[(1,(rowC cV a).map fun c=>.val false [c])])∧0≤i∧i≤(a.getD 6 default).rows.length∧n=(a.getD 6 default).rows.length - i.toNat) ?_ ?_
 · exact ⟨rfl,(a.getD 6 default).rows.length - 0,0,rfl,by omega,by omega,rfl⟩
 rintro n q ⟨i,rfl,h1,h2,h3⟩
 repeat' first
  | refine And.intro ?_ ?_
  | (intro h;cases h)
  | (intro h;rw [h])
  | intro h
 all_goals first
  | (show aa _=true;kernel_rfl)|(show am _ _=true;kernel_rfl)|exact True.intro|exact rfl|exact Or.inr rfl|exact Or.inl rfl
  | exact ⟨_,trivial,rfl,trivial⟩
  | omega
  | exact jbO ‹_›
  | exact ⟨_,rfl⟩
  | skip
 have hi:i < ((a.getD 6 default).rows.length:Int):=jbO ‹decide (i < ((a.getD 6 default).rows.length:Int))=true›
 have wr:WfRow T [.l 3,.l 147] ((a.getD 6 default).rows.getD i.toNat []):=wA.row rfl (by omega)
 have wB:WfD T (.l 3) (.l (((a.getD 6 default).rows.getD i.toNat []).getD 0 default).rows):=wr.rows (j:=0) rfl
 have lb:=wB.len
 refine ap (Q:=_) [1,3,4,5] [1,4] (fun n q=>∃ k:Int,q=([.ptr 1 1 0,.val false [.i .i64 i],.ptr 4 1 0,.val false [.i .i64 k]],[(1,(rowC cV a).map fun c=>.val false [c]),(1,(rowC [.l 3,.l 147] ((a.getD 6 default).rows.getD i.toNat [])).map fun c=>.val false [c])])∧0≤k∧k≤(((a.getD 6 default).rows.getD i.toNat []).getD 0 default).rows.length∧n=(((a.getD 6 default).rows.getD i.toNat []).getD 0 default).rows.length - k.toNat) ?_ ?_
 · exact ⟨rfl,(((a.getD 6 default).rows.getD i.toNat []).getD 0 default).rows.length - 0,0,rfl,by omega,by omega,rfl⟩
 rintro m q ⟨k,rfl,k1,k2,k3⟩
 repeat' first
  | refine And.intro ?_ ?_
  | (intro h;cases h)
  | (intro h;rw [h])
  | intro h
 all_goals first
  | (show aa _=true;kernel_rfl)|(show am _ _=true;kernel_rfl)|exact True.intro|exact rfl|exact Or.inr rfl|exact Or.inl rfl
  | exact ⟨_,trivial,rfl,trivial⟩
  | omega
  | exact jbO ‹_›
  | exact ⟨_,rfl⟩
  | exact ⟨(a.getD 6 default).rows.length - (i+1).toNat,by omega,i+1,congrArg (fun z:Int=>(([.ptr 1 1 0,.val false [.i .i64 z]],[(1,(rowC cV a).map fun c=>.val false [c])]):Snap)) (aC h1 hi la),by omega,by omega,rfl⟩
  | (have hk:k < ((((a.getD 6 default).rows.getD i.toNat []).getD 0 default).rows.length:Int):=jbO ‹decide (k < ((((a.getD 6 default).rows.getD i.toNat []).getD 0 default).rows.length:Int))=true›
     exact ⟨(((a.getD 6 default).rows.getD i.toNat []).getD 0 default).rows.length - (k+1).toNat,by omega,k+1,congrArg (fun z:Int=>(([.ptr 1 1 0,.val false [.i .i64 i],.ptr 4 1 0,.val false [.i .i64 z]],[(1,(rowC cV a).map fun c=>.val false [c]),(1,(rowC [.l 3,.l 147] ((a.getD 6 default).rows.getD i.toNat [])).map fun c=>.val false [c])]):Snap)) (aC k1 hk lb),by omega,by omega,rfl⟩)
noncomputable def g119:List SV→Bool:=any119.choose
noncomputable def z7:FSpec:={ pre:=fun args=>∃ a:List D,WfRow T cV a∧args=[argG cV a],res:=fun args=>.val false [.b (g119 args)] }
theorem ok119:FOk Tryz.prog T 119 z7:=any119.choose_spec.1
theorem anyS118 (n:Nat) (g86:List SV→Bool) (hn:FOk Tryz.prog T 86 { pre:=fun args=>∃ a:List D,WfRow T cV a∧SizeOf.sizeOf a < n∧args=[argG cV a],res:=fun args=>.val false [.b (g86 args)] }):∃ g:List SV→Bool,FOk Tryz.prog T 118 { pre:=fun args=>∃ a:List D,WfRow T cV a∧SizeOf.sizeOf a < n+1∧args=[argG cV a],res:=fun args=>.val false [.b (g args)] }∧∀ args,(fun args=>∃ a:List D,WfRow T cV a∧SizeOf.sizeOf a < n+1∧args=[argG cV a]) args→(∀ a ∈ args,WfSV T a)→(fun _ _=>True) args (g args):=by
 refine fokA (fun _ x=>.val false [.b x]) (post:=fun _ _=>True) (env:=envL [(150,zZ),(86, { pre:=fun args=>∃ a:List D,WfRow T cV a∧SizeOf.sizeOf a < n∧args=[argG cV a],res:=fun args=>.val false [.b (g86 args)] }),(151,zY)]) (N:=36) tabT (ac ok150 (ac hn (ac ok151 af))) mixed Tryz.func118 rfl Tryz.call118 Tryz.ntmps118 ?_
 rintro args ⟨a,wa,hs,rfl⟩ hwf
 refine ⟨by simp,?_⟩
 rw [Tryz.results118]
 have wA:WfD T (.l 53) (.l (a.getD 4 default).rows):=wa.rows (j:=4) rfl
 have la:=wA.len
 repeat' first
  | refine And.intro ?_ ?_
  | (intro h;cases h)
  | (intro h;rw [h])
  | intro h
 all_goals first
  | (show aa _=true;kernel_rfl)|(show am _ _=true;kernel_rfl)|exact True.intro|exact rfl|exact Or.inr rfl|exact Or.inl rfl
  | exact ⟨_,trivial,rfl,trivial⟩
  | exact ⟨_,rfl⟩
  | exact ⟨_,_,rfl⟩
  | exact ⟨_,_,_,rfl⟩
  | exact ⟨_,wa,rfl⟩
  | skip
 refine ap (Q:=_) [1,3] [1] (fun n q=>∃ i:Int,q=([.ptr 1 1 0,.val false [.i .i64 i]],[(1,(rowC cV a).map fun c=>.val false [c])])∧0≤i∧i≤(a.getD 4 default).rows.length∧n=(a.getD 4 default).rows.length - i.toNat) ?_ ?_
 · exact ⟨rfl,(a.getD 4 default).rows.length - 0,0,rfl,by omega,by omega,rfl⟩
 rintro n q ⟨i,rfl,h1,h2,h3⟩
 repeat' first
  | refine And.intro ?_ ?_
  | (intro h;cases h)
  | (intro h;rw [h])
  | intro h
 all_goals first
  | (show aa _=true;kernel_rfl)|(show am _ _=true;kernel_rfl)|exact True.intro|exact rfl|exact Or.inr rfl|exact Or.inl rfl
  | exact ⟨_,trivial,rfl,trivial⟩
  | exact ⟨_,rfl⟩
  | exact ⟨_,_,rfl⟩
  | exact ⟨_,_,_,rfl⟩
  | exact ⟨_,wa,rfl⟩
  | omega
  | exact jbO ‹_›
  | (have hi:i < ((a.getD 4 default).rows.length:Int):=jbO ‹decide (i < ((a.getD 4 default).rows.length:Int))=true›
     exact ⟨(a.getD 4 default).rows.length - (i+1).toNat,by omega,i+1,congrArg (fun z:Int=>((([.ptr 1 1 0,.val false [.i .i64 z]],[(1,(rowC cV a).map fun c=>.val false [c])])):Snap)) (aC h1 hi la),by omega,by omega,rfl⟩)
  | (have hi:i < ((a.getD 4 default).rows.length:Int):=jbO ‹decide (i < ((a.getD 4 default).rows.length:Int))=true›
     have wr:WfRow T cV ((a.getD 4 default).rows.getD i.toNat []):=wA.row rfl (by omega)
     first
      | exact ⟨_,wr,rfl⟩
      | exact ⟨_,wr,jcM (Nat.lt_trans (cP (by omega)) (cj (by rw [wa.1];decide))) (jdG hs),rfl⟩)
theorem anyS86 (n:Nat) (g118:List SV→Bool) (hn:FOk Tryz.prog T 118 { pre:=fun args=>∃ a:List D,WfRow T cV a∧SizeOf.sizeOf a < n+1∧args=[argG cV a],res:=fun args=>.val false [.b (g118 args)] }):∃ g:List SV→Bool,FOk Tryz.prog T 86 { pre:=fun args=>∃ a:List D,WfRow T cV a∧SizeOf.sizeOf a < n+1∧args=[argG cV a],res:=fun args=>.val false [.b (g args)] }∧∀ args,(∃ a:List D,WfRow T cV a∧SizeOf.sizeOf a < n+1∧args=[argG cV a])→(∀ a ∈ args,WfSV T a)→True:=by
 have hE:eu Tryz.prog T (envL [(88,jb),(117,z8),(118, { pre:=fun args=>∃ a:List D,WfRow T cV a∧SizeOf.sizeOf a < n+1∧args=[argG cV a],res:=fun args=>.val false [.b (g118 args)] }),(119,z7),(35,spIn)]):=(ac ok88 (ac ok117 (ac hn (ac ok119 (ac ok35 af)))))
 refine fokSA (N:=95) (fun _ x=>.val false [.b x]) (post:=fun _ _=>True) tabT Tryz.func86 rfl Tryz.call86 Tryz.ntmps86 ?_
 rintro args ⟨a,wa,hs,rfl⟩ hwf
 refine ⟨by simp,?_⟩
 rw [Tryz.results86]
 clear hwf
 refine Snd.seq tabT hE mixed ?_
 repeat' first
  | refine And.intro ?_ ?_
  | (intro h;cases h)
  | (intro h;rw [h])
  | intro h
 all_goals first
  | exact ⟨_,trivial,rfl,trivial⟩
  | (show aa _=true;kernel_rfl)|(show am _ _=true;kernel_rfl)|exact True.intro|exact rfl|exact Or.inr rfl|exact Or.inl rfl
  | rfl
  | exact ⟨_,rfl⟩
  | exact ⟨_,_,rfl⟩
  | exact ⟨_,_,_,rfl⟩
  | exact ⟨_,wa,hs,rfl⟩
  | exact ⟨_,wa,rfl⟩
  | skip
 refine Snd.cut2 tabT hE mixed [1,2] [1] (fun q=>q=([.ptr 1 1 0,.val false [.b false]],[(1,(rowC cV a).map fun c=>.val false [c])])) ?_ ?_
 · repeat' first
    | refine And.intro ?_ ?_
    | (intro h;cases h)
    | (intro h;rw [h])
    | intro h
   all_goals first
    | exact ⟨_,trivial,rfl,trivial⟩
    | (show aa _=true;kernel_rfl)|(show am _ _=true;kernel_rfl)|exact True.intro|exact rfl|exact Or.inr rfl|exact Or.inl rfl
    | rfl
    | exact ⟨_,rfl⟩
    | exact ⟨_,_,rfl⟩
    | exact ⟨_,_,_,rfl⟩
    | exact ⟨_,wa,hs,rfl⟩
    | exact ⟨_,wa,rfl⟩
 rintro q rfl
 refine Snd.cut2 tabT hE mixed [1,2] [1] (fun q=>q=([.ptr 1 1 0,.val false [.b false]],[(1,(rowC cV a).map fun c=>.val false [c])])) ?_ ?_
 · repeat' first
    | refine And.intro ?_ ?_
    | (intro h;cases h)
    | (intro h;rw [h])
    | intro h
   all_goals first
    | exact ⟨_,trivial,rfl,trivial⟩
    | (show aa _=true;kernel_rfl)|(show am _ _=true;kernel_rfl)|exact True.intro|exact rfl|exact Or.inr rfl|exact Or.inl rfl
    | rfl
    | exact ⟨_,rfl⟩
    | exact ⟨_,_,rfl⟩
    | exact ⟨_,_,_,rfl⟩
    | exact ⟨_,wa,hs,rfl⟩
    | exact ⟨_,wa,rfl⟩
 rintro q rfl
 refine Snd.of_awp tabT hE mixed ?_
 repeat' first
  | refine And.intro ?_ ?_
  | (intro h;cases h)
  | (intro h;rw [h])
  | intro h
 all_goals first
  | exact ⟨_,trivial,rfl,trivial⟩
  | (show aa _=true;kernel_rfl)|(show am _ _=true;kernel_rfl)|exact True.intro|exact rfl|exact Or.inr rfl|exact Or.inl rfl
  | rfl
  | exact ⟨_,rfl⟩
  | exact ⟨_,_,rfl⟩
  | exact ⟨_,_,_,rfl⟩
  | exact ⟨_,wa,hs,rfl⟩
  | exact ⟨_,wa,rfl⟩
theorem anyZ86:∃ g:List SV→Bool,FOk Tryz.prog T 86 { pre:=fun args=>∃ a:List D,WfRow T cV a∧SizeOf.sizeOf a < 0∧args=[argG cV a],res:=fun args=>.val false [.b (g args)] }:=by
 refine ⟨fun _=>default,fok (env:=envL []) (N:=95) tabT af mixed Tryz.func86 rfl Tryz.call86 Tryz.ntmps86 ?_⟩
 rintro args ⟨a,wa,hs,rfl⟩ _
 exact absurd hs (jcE _)
noncomputable def svOk:List SV→Bool
 | [.val _ cs]=>okVal (csD cs)
 | _=>false
theorem okF118:FOk Tryz.prog T 118 { pre:=fun _=>False,res:=fun _=>.none }:=by
 refine fok (env:=envL []) (N:=36) tabT af mixed Tryz.func118 rfl Tryz.call118 Tryz.ntmps118 ?_
 exact fun args h=>h.elim
theorem okF117:FOk Tryz.prog T 117 { pre:=fun _=>False,res:=fun _=>.none }:=by
 refine fok (env:=envL []) (N:=29) tabT af mixed Tryz.func117 rfl Tryz.call117 Tryz.ntmps117 ?_
 exact fun args h=>h.elim
theorem okF119:FOk Tryz.prog T 119 { pre:=fun _=>False,res:=fun _=>.none }:=by
 refine fok (env:=envL []) (N:=55) tabT af mixed Tryz.func119 rfl Tryz.call119 Tryz.ntmps119 ?_
 exact fun args h=>h.elim
theorem yF:FOk Tryz.prog T 86 { pre:=fun args=>∃ a:List D,WfRow T cV a∧(a.getD 5 default).rows.length+(a.getD 6 default).rows.length≤4611686018427387904∧((a.getD 0 default).int=1∨(a.getD 0 default).int=6)∧args=[argG cV a],res:=fun args=>.val false [.b (svOk args)] }:=by
 refine fok (env:=envL [(88,jb),(117, { pre:=fun _=>False,res:=fun _=>.none }),(118, { pre:=fun _=>False,res:=fun _=>.none }),(119, { pre:=fun _=>False,res:=fun _=>.none }),(35,spIn)]) (N:=95) tabT (ac ok88 (ac okF117 (ac okF118 (ac okF119 (ac ok35 af))))) mixed Tryz.func86 rfl Tryz.call86 Tryz.ntmps86 ?_
 rintro args ⟨a,wa,hl,hk,rfl⟩ hwf
 refine ⟨by simp,?_⟩
 rw [Tryz.results86]
 clear hwf
 obtain ⟨d0,r0,rfl,w0,wa⟩:=wa.cons'
 obtain ⟨d1,r1,rfl,w1,wa⟩:=wa.cons'
 obtain ⟨d2,r2,rfl,w2,wa⟩:=wa.cons'
 obtain ⟨d3,r3,rfl,w3,wa⟩:=wa.cons'
 obtain ⟨d4,r4,rfl,w4,wa⟩:=wa.cons'
 obtain ⟨d5,r5,rfl,w5,wa⟩:=wa.cons'
 obtain ⟨d6,r6,rfl,w6,wa⟩:=wa.cons'
 obtain rfl:=wa.nil'
 obtain ⟨n0,rfl,_⟩:=w0.int'
 obtain ⟨n1,rfl,_⟩:=w1.int'
 obtain ⟨n2,rfl,_⟩:=w2.int'
 obtain ⟨s3,rfl,_⟩:=w3.str'
 obtain ⟨l4,rfl,_⟩:=w4.sl'
 obtain ⟨l5,rfl,_⟩:=w5.sl'
 obtain ⟨l6,rfl,_⟩:=w6.sl'
 clear w0 w1 w2 w3 w4 w5 w6
 have hl:l5.length+l6.length≤4611686018427387904:=hl
 have hk:n0=1∨n0=6:=hk
 rcases hk with rfl|rfl
 all_goals
  repeat' first
   | refine And.intro ?_ ?_
   | (intro h;cases h)
   | (intro h;rw [h])
   | intro h
 all_goals first
  | (show aa _=true;kernel_rfl)|(show am _ _=true;kernel_rfl)|exact True.intro|exact rfl|exact Or.inr rfl|exact Or.inl rfl
  | exact ⟨_,rfl⟩
  | exact ⟨_,_,_,rfl⟩
  | (refine resB ?_;show _=okVal [_,_,_,_,_,_,_];simp_all [okVal,inR,CV.d,ofD,IntKind.wrap_i64,jdy,jdx,D.int,D.rows,D.str];done)
  | (refine resB ?_;show _=okVal [_,_,_,_,_,_,_];simp_all [okVal,inR,CV.d,ofD,IntKind.wrap_i64,jdy,jdx,D.int,D.rows,D.str];simp only [← jcl] at *;intros;omega)
  | (refine resB ?_;show _=okVal [_,_,_,_,_,_,_];simp_all [okVal,inR,CV.d,ofD,IntKind.wrap_i64,jdy,jdx,D.int,D.rows,D.str];done)
theorem any86:∃ g:List SV→Bool,FOk Tryz.prog T 86 { pre:=fun args=>∃ a:List D,WfRow T cV a∧args=[argG cV a],res:=fun args=>.val false [.b (g args)] }∧∀ args,(fun args=>∃ a:List D,WfRow T cV a∧args=[argG cV a]) args→(∀ a ∈ args,WfSV T a)→True:=by
 refine ja2 (fun _ x=>.val false [.b x]) (post:=fun _ _=>True) (pre:=fun n args=>∃ a:List D,WfRow T cV a∧SizeOf.sizeOf a < n∧args=[argG cV a]) (fun n=>?_) (fun args ⟨a,wa,h⟩=>⟨SizeOf.sizeOf a+1,a,wa,jcO _,h⟩)
 induction n with
 | zero =>
   obtain ⟨g,hg⟩:=anyZ86
   exact ⟨g,hg,fun _ _ _=>trivial⟩
 | succ n ih =>
   obtain ⟨g,hg,_⟩:=ih
   obtain ⟨g2,hg2,_⟩:=anyS118 n g hg
   exact anyS86 n g2 hg2
theorem both86:∃ g:List SV→Bool,FOk Tryz.prog T 86 { pre:=fun args=>∃ a:List D,WfRow T cV a∧args=[argG cV a],res:=fun args=>.val false [.b (g args)] }∧∀ args,(fun args=>∃ a:List D,WfRow T cV a∧(a.getD 5 default).rows.length+(a.getD 6 default).rows.length≤4611686018427387904∧((a.getD 0 default).int=1∨(a.getD 0 default).int=6)∧args=[argG cV a]) args→g args=svOk args:=joinB (by obtain ⟨g,hg,_⟩:=any86;exact ⟨g,hg⟩) yF
noncomputable def g86:List SV→Bool:=both86.choose
noncomputable def sp86:FSpec:={ pre:=fun args=>∃ a:List D,WfRow T cV a∧args=[argG cV a],res:=fun args=>.val false [.b (g86 args)] }
theorem ok86:FOk Tryz.prog T 86 sp86:=both86.choose_spec.1
theorem xq:∀ args,(fun args=>∃ a:List D,WfRow T cV a∧(a.getD 5 default).rows.length+(a.getD 6 default).rows.length≤4611686018427387904∧((a.getD 0 default).int=1∨(a.getD 0 default).int=6)∧args=[argG cV a]) args→g86 args=svOk args:=both86.choose_spec.2
end Go.Proofs.YtdjfhmghebommaaGreatDoor.Ab
