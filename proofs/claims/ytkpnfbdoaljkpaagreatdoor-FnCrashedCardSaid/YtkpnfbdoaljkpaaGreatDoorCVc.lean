/- Functions that call themselves, and tables: printed by a program of this -/
import Derived.Test.YtkpnfbdoaljkpaaGreatDoorCVb
namespace Go.Proofs.YtkpnfbdoaljkpaaGreatDoor.Ab
open Go.RowKit
set_option linter.all false
set_option maxRecDepth 100000
set_option maxHeartbeats 1000000
theorem anyS183 (n:Nat) (g183:List SV→Int) (hn:FOk Tryz.prog T 183 { pre:=fun args=>∃ a:List D,WfRow T cV a∧SizeOf.sizeOf a < n∧args=[argG cV a],res:=fun args=>.val false [.i .i64 (g183 args)] }):∃ g:List SV→Int,FOk Tryz.prog T 183 { pre:=fun args=>∃ a:List D,WfRow T cV a∧SizeOf.sizeOf a < n+1∧args=[argG cV a],res:=fun args=>.val false [.i .i64 (g args)] }∧∀ args,(fun args=>∃ a:List D,WfRow T cV a∧SizeOf.sizeOf a < n+1∧args=[argG cV a]) args→(∀ a ∈ args,WfSV T a)→(fun _ _=>True) args (g args):=by
 refine fokA (fun _ x=>.val false [.i .i64 x]) (post:=fun _ _=>True) (env:=envL [(183, { pre:=fun args=>∃ a:List D,WfRow T cV a∧SizeOf.sizeOf a < n∧args=[argG cV a],res:=fun args=>.val false [.i .i64 (g183 args)] }),(47,sp47)]) (N:=22) tabT (aa hn (aa ok47 ae)) mixed Tryz.func183 rfl Tryz.call183 Tryz.ntmps183 ?_
 rintro args ⟨a,wa,hs,rfl⟩ hwf
 refine ⟨by simp,?_⟩
 rw [Tryz.results183]
 have wA:WfD T (.l 53) (.l (a.getD 4 default).rows):=wa.rows (j:=4) rfl
 have la:=wA.len
 repeat' first
  | (refine And.intro ?_ ?_)
  | (intro h;cases h)
  | (intro h;rw [h])
  | (intro h)
 all_goals first
  | (show ac _=true;kernel_rfl)|(show aj _ _=true;kernel_rfl)|exact True.intro|exact rfl|exact Or.inr rfl|exact Or.inl rfl
  | exact ⟨_,trivial,rfl,trivial⟩
  | exact ⟨_,rfl⟩
  | exact ⟨_,_,rfl⟩
  | exact ⟨_,_,_,rfl⟩
  | exact ⟨_,wa,rfl⟩
  | skip
 refine ar (Q:=_) [1,3,4] [1] (fun n q=>∃ (i z:Int),q=([.ptr 1 1 0,.val false [.i .i64 z],.val false [.i .i64 i]],[(1,(rowC cV a).map fun c=>.val false [c])])∧0≤i∧i≤(a.getD 4 default).rows.length∧n=(a.getD 4 default).rows.length - i.toNat) ?_ ?_
 · exact ⟨rfl,(a.getD 4 default).rows.length - 0,0,0,rfl,by omega,by omega,rfl⟩
 rintro n q ⟨i,z,rfl,h1,h2,h3⟩
 repeat' first
  | (refine And.intro ?_ ?_)
  | (intro h;cases h)
  | (intro h;rw [h])
  | (intro h)
 all_goals first
  | (show ac _=true;kernel_rfl)|(show aj _ _=true;kernel_rfl)|exact True.intro|exact rfl|exact Or.inr rfl|exact Or.inl rfl
  | exact ⟨_,trivial,rfl,trivial⟩
  | exact ⟨_,rfl⟩
  | exact ⟨_,_,rfl⟩
  | exact ⟨_,_,_,rfl⟩
  | exact ⟨_,wa,rfl⟩
  | omega
  | exact jaT ‹_›
  | (have hi:i < ((a.getD 4 default).rows.length:Int):=jaT ‹decide (i < ((a.getD 4 default).rows.length:Int))=true›
     exact ⟨(a.getD 4 default).rows.length - (i+1).toNat,by omega,i+1,_,snapN (fun z j=>(([.ptr 1 1 0,.val false [.i .i64 z],.val false [.i .i64 j]],[(1,(rowC cV a).map fun c=>.val false [c])]))) _ h1 hi la,by omega,by omega,rfl⟩)
  | (have hi:i < ((a.getD 4 default).rows.length:Int):=jaT ‹decide (i < ((a.getD 4 default).rows.length:Int))=true›
     have wr:WfRow T cV ((a.getD 4 default).rows.getD i.toNat []):=wA.row rfl (by omega)
     first
      | exact ⟨_,wr,rfl⟩
      | exact ⟨_,wr,jbR (Nat.lt_trans (b8 (by omega)) (bW (by rw [wa.1];decide))) (jcL hs),rfl⟩)
theorem anyZ183:∃ g:List SV→Int,FOk Tryz.prog T 183 { pre:=fun args=>∃ a:List D,WfRow T cV a∧SizeOf.sizeOf a < 0∧args=[argG cV a],res:=fun args=>.val false [.i .i64 (g args)] }:=by
 refine ⟨fun _=>default,fok (env:=envL []) (N:=22) tabT ae mixed Tryz.func183 rfl Tryz.call183 Tryz.ntmps183 ?_⟩
 rintro args ⟨a,wa,hs,rfl⟩ _
 exact absurd hs (jbJ _)
theorem any183:∃ g:List SV→Int,FOk Tryz.prog T 183 { pre:=fun args=>∃ a:List D,WfRow T cV a∧args=[argG cV a],res:=fun args=>.val false [.i .i64 (g args)] }∧∀ args,(fun args=>∃ a:List D,WfRow T cV a∧args=[argG cV a]) args→(∀ a ∈ args,WfSV T a)→True:=by
 refine zV (fun _ x=>.val false [.i .i64 x]) (post:=fun _ _=>True) (pre:=fun n args=>∃ a:List D,WfRow T cV a∧SizeOf.sizeOf a < n∧args=[argG cV a]) (fun n=>?_) (fun args ⟨a,wa,h⟩=>⟨SizeOf.sizeOf a+1,a,wa,jbT _,h⟩)
 induction n with
 | zero =>
   obtain ⟨g,hg⟩:=anyZ183
   exact ⟨g,hg,fun _ _ _=>trivial⟩
 | succ n ih =>
   obtain ⟨g,hg,_⟩:=ih
   exact anyS183 n g hg
noncomputable def g183:List SV→Int:=any183.choose
noncomputable def yY:FSpec:={ pre:=fun args=>∃ a:List D,WfRow T cV a∧args=[argG cV a],res:=fun args=>.val false [.i .i64 (g183 args)] }
theorem ok183:FOk Tryz.prog T 183 yY:=any183.choose_spec.1
theorem any150:∃ g:List SV→Bool,FOk Tryz.prog T 150 { pre:=fun args=>∃ a:List D,WfRow T cV a∧args=[argG cV a],res:=fun args=>.val false [.b (g args)] }∧∀ args,(fun args=>∃ a:List D,WfRow T cV a∧args=[argG cV a]) args→(∀ a ∈ args,WfSV T a)→True:=by
 refine fokA (fun _ x=>.val false [.b x]) (post:=fun _ _=>True) (env:=envL [(184,yX),(185,yW),(147,jW)]) (N:=55) tabT (aa ok184 (aa ok185 (aa ok147 ae))) mixed Tryz.func150 rfl Tryz.call150 Tryz.ntmps150 ?_
 rintro args ⟨a,wa,rfl⟩ hwf
 have wA:WfD T (.l 131) (.l (a.getD 6 default).rows):=wa.rows (j:=6) rfl
 have la:=wA.len
 refine ⟨by simp,?_⟩
 rw [Tryz.results150]
 repeat' first
  | (refine And.intro ?_ ?_)
  | (intro h;cases h)
  | (intro h;rw [h])
  | (intro h)
 all_goals first
  | (show ac _=true;kernel_rfl)|(show aj _ _=true;kernel_rfl)|exact True.intro|exact rfl|exact Or.inr rfl|exact Or.inl rfl
  | exact ⟨_,trivial,rfl,trivial⟩
  | exact ⟨_,rfl⟩
  | skip
 refine ar (Q:=_) [1,3] [1] (fun n q=>∃ i:Int,q=([.ptr 1 1 0,.val false [.i .i64 i]],[(1,(rowC cV a).map fun c=>.val false [c])])∧0≤i∧i≤(a.getD 6 default).rows.length∧n=(a.getD 6 default).rows.length - i.toNat) ?_ ?_
 · exact ⟨rfl,(a.getD 6 default).rows.length - 0,0,rfl,by omega,by omega,rfl⟩
 rintro n q ⟨i,rfl,h1,h2,h3⟩
 repeat' first
  | (refine And.intro ?_ ?_)
  | (intro h;cases h)
  | (intro h;rw [h])
  | (intro h)
 all_goals first
  | (show ac _=true;kernel_rfl)|(show aj _ _=true;kernel_rfl)|exact True.intro|exact rfl|exact Or.inr rfl|exact Or.inl rfl
  | exact ⟨_,trivial,rfl,trivial⟩
  | omega
  | exact jaT ‹_›
  | exact ⟨_,rfl⟩
  | skip
 have hi:i < ((a.getD 6 default).rows.length:Int):=jaT ‹decide (i < ((a.getD 6 default).rows.length:Int))=true›
 have wr:WfRow T [.l 3,.l 167] ((a.getD 6 default).rows.getD i.toNat []):=wA.row rfl (by omega)
 have wB:WfD T (.l 3) (.l (((a.getD 6 default).rows.getD i.toNat []).getD 0 default).rows):=wr.rows (j:=0) rfl
 have lb:=wB.len
 refine ar (Q:=_) [1,3,4,5] [1,4] (fun n q=>∃ k:Int,q=([.ptr 1 1 0,.val false [.i .i64 i],.ptr 4 1 0,.val false [.i .i64 k]],[(1,(rowC cV a).map fun c=>.val false [c]),(1,(rowC [.l 3,.l 167] ((a.getD 6 default).rows.getD i.toNat [])).map fun c=>.val false [c])])∧0≤k∧k≤(((a.getD 6 default).rows.getD i.toNat []).getD 0 default).rows.length∧n=(((a.getD 6 default).rows.getD i.toNat []).getD 0 default).rows.length - k.toNat) ?_ ?_
 · exact ⟨rfl,(((a.getD 6 default).rows.getD i.toNat []).getD 0 default).rows.length - 0,0,rfl,by omega,by omega,rfl⟩
 rintro m q ⟨k,rfl,k1,k2,k3⟩
 repeat' first
  | (refine And.intro ?_ ?_)
  | (intro h;cases h)
  | (intro h;rw [h])
  | (intro h)
 all_goals first
  | (show ac _=true;kernel_rfl)|(show aj _ _=true;kernel_rfl)|exact True.intro|exact rfl|exact Or.inr rfl|exact Or.inl rfl
  | exact ⟨_,trivial,rfl,trivial⟩
  | omega
  | exact jaT ‹_›
  | exact ⟨_,rfl⟩
  | exact ⟨(a.getD 6 default).rows.length - (i+1).toNat,by omega,i+1,congrArg (fun z:Int=>(([.ptr 1 1 0,.val false [.i .i64 z]],[(1,(rowC cV a).map fun c=>.val false [c])]):Snap)) (aA h1 hi la),by omega,by omega,rfl⟩
  | (have hk:k < ((((a.getD 6 default).rows.getD i.toNat []).getD 0 default).rows.length:Int):=jaT ‹decide (k < ((((a.getD 6 default).rows.getD i.toNat []).getD 0 default).rows.length:Int))=true›
     exact ⟨(((a.getD 6 default).rows.getD i.toNat []).getD 0 default).rows.length - (k+1).toNat,by omega,k+1,congrArg (fun z:Int=>(([.ptr 1 1 0,.val false [.i .i64 i],.ptr 4 1 0,.val false [.i .i64 z]],[(1,(rowC cV a).map fun c=>.val false [c]),(1,(rowC [.l 3,.l 167] ((a.getD 6 default).rows.getD i.toNat [])).map fun c=>.val false [c])]):Snap)) (aA k1 hk lb),by omega,by omega,rfl⟩)
noncomputable def g150:List SV→Bool:=any150.choose
noncomputable def y8:FSpec:={ pre:=fun args=>∃ a:List D,WfRow T cV a∧args=[argG cV a],res:=fun args=>.val false [.b (g150 args)] }
theorem ok150:FOk Tryz.prog T 150 y8:=any150.choose_spec.1
theorem anyS149 (n:Nat) (g104:List SV→Bool) (hn:FOk Tryz.prog T 104 { pre:=fun args=>∃ a:List D,WfRow T cV a∧SizeOf.sizeOf a < n∧args=[argG cV a],res:=fun args=>.val false [.b (g104 args)] }):∃ g:List SV→Bool,FOk Tryz.prog T 149 { pre:=fun args=>∃ a:List D,WfRow T cV a∧SizeOf.sizeOf a < n+1∧args=[argG cV a],res:=fun args=>.val false [.b (g args)] }∧∀ args,(fun args=>∃ a:List D,WfRow T cV a∧SizeOf.sizeOf a < n+1∧args=[argG cV a]) args→(∀ a ∈ args,WfSV T a)→(fun _ _=>True) args (g args):=by
 refine fokA (fun _ x=>.val false [.b x]) (post:=fun _ _=>True) (env:=envL [(182,yZ),(104, { pre:=fun args=>∃ a:List D,WfRow T cV a∧SizeOf.sizeOf a < n∧args=[argG cV a],res:=fun args=>.val false [.b (g104 args)] }),(183,yY)]) (N:=36) tabT (aa ok182 (aa hn (aa ok183 ae))) mixed Tryz.func149 rfl Tryz.call149 Tryz.ntmps149 ?_
 rintro args ⟨a,wa,hs,rfl⟩ hwf
 refine ⟨by simp,?_⟩
 rw [Tryz.results149]
 have wA:WfD T (.l 53) (.l (a.getD 4 default).rows):=wa.rows (j:=4) rfl
 have la:=wA.len
 repeat' first
  | (refine And.intro ?_ ?_)
  | (intro h;cases h)
  | (intro h;rw [h])
  | (intro h)
 all_goals first
  | (show ac _=true;kernel_rfl)|(show aj _ _=true;kernel_rfl)|exact True.intro|exact rfl|exact Or.inr rfl|exact Or.inl rfl
  | exact ⟨_,trivial,rfl,trivial⟩
  | exact ⟨_,rfl⟩
  | exact ⟨_,_,rfl⟩
  | exact ⟨_,_,_,rfl⟩
  | exact ⟨_,wa,rfl⟩
  | skip
 refine ar (Q:=_) [1,3] [1] (fun n q=>∃ i:Int,q=([.ptr 1 1 0,.val false [.i .i64 i]],[(1,(rowC cV a).map fun c=>.val false [c])])∧0≤i∧i≤(a.getD 4 default).rows.length∧n=(a.getD 4 default).rows.length - i.toNat) ?_ ?_
 · exact ⟨rfl,(a.getD 4 default).rows.length - 0,0,rfl,by omega,by omega,rfl⟩
 rintro n q ⟨i,rfl,h1,h2,h3⟩
 repeat' first
  | (refine And.intro ?_ ?_)
  | (intro h;cases h)
  | (intro h;rw [h])
  | (intro h)
 all_goals first
  | (show ac _=true;kernel_rfl)|(show aj _ _=true;kernel_rfl)|exact True.intro|exact rfl|exact Or.inr rfl|exact Or.inl rfl
  | exact ⟨_,trivial,rfl,trivial⟩
  | exact ⟨_,rfl⟩
  | exact ⟨_,_,rfl⟩
  | exact ⟨_,_,_,rfl⟩
  | exact ⟨_,wa,rfl⟩
  | omega
  | exact jaT ‹_›
  | (have hi:i < ((a.getD 4 default).rows.length:Int):=jaT ‹decide (i < ((a.getD 4 default).rows.length:Int))=true›
     exact ⟨(a.getD 4 default).rows.length - (i+1).toNat,by omega,i+1,congrArg (fun z:Int=>((([.ptr 1 1 0,.val false [.i .i64 z]],[(1,(rowC cV a).map fun c=>.val false [c])])):Snap)) (aA h1 hi la),by omega,by omega,rfl⟩)
  | (have hi:i < ((a.getD 4 default).rows.length:Int):=jaT ‹decide (i < ((a.getD 4 default).rows.length:Int))=true›
     have wr:WfRow T cV ((a.getD 4 default).rows.getD i.toNat []):=wA.row rfl (by omega)
     first
      | exact ⟨_,wr,rfl⟩
      | exact ⟨_,wr,jbR (Nat.lt_trans (b8 (by omega)) (bW (by rw [wa.1];decide))) (jcL hs),rfl⟩)
theorem anyS104 (n:Nat) (g149:List SV→Bool) (hn:FOk Tryz.prog T 149 { pre:=fun args=>∃ a:List D,WfRow T cV a∧SizeOf.sizeOf a < n+1∧args=[argG cV a],res:=fun args=>.val false [.b (g149 args)] }):∃ g:List SV→Bool,FOk Tryz.prog T 104 { pre:=fun args=>∃ a:List D,WfRow T cV a∧SizeOf.sizeOf a < n+1∧args=[argG cV a],res:=fun args=>.val false [.b (g args)] }∧∀ args,(∃ a:List D,WfRow T cV a∧SizeOf.sizeOf a < n+1∧args=[argG cV a])→(∀ a ∈ args,WfSV T a)→True:=by
 have hE:fO Tryz.prog T (envL [(147,jW),(148,y9),(149, { pre:=fun args=>∃ a:List D,WfRow T cV a∧SizeOf.sizeOf a < n+1∧args=[argG cV a],res:=fun args=>.val false [.b (g149 args)] }),(150,y8),(49,spIn)]):=(aa ok147 (aa ok148 (aa hn (aa ok150 (aa ok49 ae)))))
 refine fokSA (N:=95) (fun _ x=>.val false [.b x]) (post:=fun _ _=>True) tabT Tryz.func104 rfl Tryz.call104 Tryz.ntmps104 ?_
 rintro args ⟨a,wa,hs,rfl⟩ hwf
 refine ⟨by simp,?_⟩
 rw [Tryz.results104]
 clear hwf
 refine Snd.seq tabT hE mixed ?_
 repeat' first
  | (refine And.intro ?_ ?_)
  | (intro h;cases h)
  | (intro h;rw [h])
  | (intro h)
 all_goals first
  | exact ⟨_,trivial,rfl,trivial⟩
  | (show ac _=true;kernel_rfl)|(show aj _ _=true;kernel_rfl)|exact True.intro|exact rfl|exact Or.inr rfl|exact Or.inl rfl
  | rfl
  | exact ⟨_,rfl⟩
  | exact ⟨_,_,rfl⟩
  | exact ⟨_,_,_,rfl⟩
  | exact ⟨_,wa,hs,rfl⟩
  | exact ⟨_,wa,rfl⟩
  | skip
 refine Snd.cut2 tabT hE mixed [1,2] [1] (fun q=>q=([.ptr 1 1 0,.val false [.b false]],[(1,(rowC cV a).map fun c=>.val false [c])])) ?_ ?_
 · repeat' first
    | (refine And.intro ?_ ?_)
    | (intro h;cases h)
    | (intro h;rw [h])
    | (intro h)
   all_goals first
    | exact ⟨_,trivial,rfl,trivial⟩
    | (show ac _=true;kernel_rfl)|(show aj _ _=true;kernel_rfl)|exact True.intro|exact rfl|exact Or.inr rfl|exact Or.inl rfl
    | rfl
    | exact ⟨_,rfl⟩
    | exact ⟨_,_,rfl⟩
    | exact ⟨_,_,_,rfl⟩
    | exact ⟨_,wa,hs,rfl⟩
    | exact ⟨_,wa,rfl⟩
 rintro q rfl
 refine Snd.cut2 tabT hE mixed [1,2] [1] (fun q=>q=([.ptr 1 1 0,.val false [.b false]],[(1,(rowC cV a).map fun c=>.val false [c])])) ?_ ?_
 · repeat' first
    | (refine And.intro ?_ ?_)
    | (intro h;cases h)
    | (intro h;rw [h])
    | (intro h)
   all_goals first
    | exact ⟨_,trivial,rfl,trivial⟩
    | (show ac _=true;kernel_rfl)|(show aj _ _=true;kernel_rfl)|exact True.intro|exact rfl|exact Or.inr rfl|exact Or.inl rfl
    | rfl
    | exact ⟨_,rfl⟩
    | exact ⟨_,_,rfl⟩
    | exact ⟨_,_,_,rfl⟩
    | exact ⟨_,wa,hs,rfl⟩
    | exact ⟨_,wa,rfl⟩
 rintro q rfl
 refine Snd.of_awp tabT hE mixed ?_
 repeat' first
  | (refine And.intro ?_ ?_)
  | (intro h;cases h)
  | (intro h;rw [h])
  | (intro h)
 all_goals first
  | exact ⟨_,trivial,rfl,trivial⟩
  | (show ac _=true;kernel_rfl)|(show aj _ _=true;kernel_rfl)|exact True.intro|exact rfl|exact Or.inr rfl|exact Or.inl rfl
  | rfl
  | exact ⟨_,rfl⟩
  | exact ⟨_,_,rfl⟩
  | exact ⟨_,_,_,rfl⟩
  | exact ⟨_,wa,hs,rfl⟩
  | exact ⟨_,wa,rfl⟩
theorem anyZ104:∃ g:List SV→Bool,FOk Tryz.prog T 104 { pre:=fun args=>∃ a:List D,WfRow T cV a∧SizeOf.sizeOf a < 0∧args=[argG cV a],res:=fun args=>.val false [.b (g args)] }:=by
 refine ⟨fun _=>default,fok (env:=envL []) (N:=95) tabT ae mixed Tryz.func104 rfl Tryz.call104 Tryz.ntmps104 ?_⟩
 rintro args ⟨a,wa,hs,rfl⟩ _
 exact absurd hs (jbJ _)
noncomputable def svOk:List SV→Bool
 | [.val _ cs]=>okVal (csD cs)
 | _=>false
theorem okF149:FOk Tryz.prog T 149 { pre:=fun _=>False,res:=fun _=>.none }:=by
 refine fok (env:=envL []) (N:=36) tabT ae mixed Tryz.func149 rfl Tryz.call149 Tryz.ntmps149 ?_
 exact fun args h=>h.elim
theorem okF148:FOk Tryz.prog T 148 { pre:=fun _=>False,res:=fun _=>.none }:=by
 refine fok (env:=envL []) (N:=29) tabT ae mixed Tryz.func148 rfl Tryz.call148 Tryz.ntmps148 ?_
 exact fun args h=>h.elim
theorem okF150:FOk Tryz.prog T 150 { pre:=fun _=>False,res:=fun _=>.none }:=by
 refine fok (env:=envL []) (N:=55) tabT ae mixed Tryz.func150 rfl Tryz.call150 Tryz.ntmps150 ?_
 exact fun args h=>h.elim
theorem ud:FOk Tryz.prog T 104 { pre:=fun args=>∃ a:List D,WfRow T cV a∧(a.getD 5 default).rows.length+(a.getD 6 default).rows.length≤4611686018427387904∧((a.getD 0 default).int=1∨(a.getD 0 default).int=6)∧args=[argG cV a],res:=fun args=>.val false [.b (svOk args)] }:=by
 refine fok (env:=envL [(147,jW),(148, { pre:=fun _=>False,res:=fun _=>.none }),(149, { pre:=fun _=>False,res:=fun _=>.none }),(150, { pre:=fun _=>False,res:=fun _=>.none }),(49,spIn)]) (N:=95) tabT (aa ok147 (aa okF148 (aa okF149 (aa okF150 (aa ok49 ae))))) mixed Tryz.func104 rfl Tryz.call104 Tryz.ntmps104 ?_
 rintro args ⟨a,wa,hl,hk,rfl⟩ hwf
 refine ⟨by simp,?_⟩
 rw [Tryz.results104]
 clear hwf
 obtain ⟨d0,r0,rfl,w0,wa⟩:=wa.cons'
 obtain ⟨d1,r1,rfl,w1,wa⟩:=wa.cons'
 obtain ⟨d2,r2,rfl,w2,wa⟩:=wa.cons'
 obtain ⟨d3,r3,rfl,w3,wa⟩:=wa.cons'
 obtain ⟨d4,r4,rfl,w4,wa⟩:=wa.cons'
 obtain ⟨d5,r5,rfl,w5,wa⟩:=wa.cons'
 obtain ⟨d6,r6,rfl,w6,wa⟩:=wa.cons'
 obtain rfl:=wa.nil'
 obtain ⟨n0,rfl,_⟩:=w0.int'
 obtain ⟨n1,rfl,_⟩:=w1.int'
 obtain ⟨n2,rfl,_⟩:=w2.int'
 obtain ⟨s3,rfl,_⟩:=w3.str'
 obtain ⟨l4,rfl,_⟩:=w4.sl'
 obtain ⟨l5,rfl,_⟩:=w5.sl'
 obtain ⟨l6,rfl,_⟩:=w6.sl'
 clear w0 w1 w2 w3 w4 w5 w6
 have hl:l5.length+l6.length≤4611686018427387904:=hl
 have hk:n0=1∨n0=6:=hk
 rcases hk with rfl|rfl
 all_goals
  repeat' first
   | (refine And.intro ?_ ?_)
   | (intro h;cases h)
   | (intro h;rw [h])
   | (intro h)
 all_goals first
  | (show ac _=true;kernel_rfl)|(show aj _ _=true;kernel_rfl)|exact True.intro|exact rfl|exact Or.inr rfl|exact Or.inl rfl
  | exact ⟨_,rfl⟩
  | exact ⟨_,_,_,rfl⟩
  | (refine resB ?_;show _=okVal [_,_,_,_,_,_,_];simp_all [okVal,inR,CV.d,ofD,IntKind.wrap_i64,jcD,jcC,D.int,D.rows,D.str];done)
  | (refine resB ?_;show _=okVal [_,_,_,_,_,_,_];simp_all [okVal,inR,CV.d,ofD,IntKind.wrap_i64,jcD,jcC,D.int,D.rows,D.str];simp only [← jbq] at *;intros;omega)
  | (refine resB ?_;show _=okVal [_,_,_,_,_,_,_];simp_all [okVal,inR,CV.d,ofD,IntKind.wrap_i64,jcD,jcC,D.int,D.rows,D.str];done)
theorem any104:∃ g:List SV→Bool,FOk Tryz.prog T 104 { pre:=fun args=>∃ a:List D,WfRow T cV a∧args=[argG cV a],res:=fun args=>.val false [.b (g args)] }∧∀ args,(fun args=>∃ a:List D,WfRow T cV a∧args=[argG cV a]) args→(∀ a ∈ args,WfSV T a)→True:=by
 refine zV (fun _ x=>.val false [.b x]) (post:=fun _ _=>True) (pre:=fun n args=>∃ a:List D,WfRow T cV a∧SizeOf.sizeOf a < n∧args=[argG cV a]) (fun n=>?_) (fun args ⟨a,wa,h⟩=>⟨SizeOf.sizeOf a+1,a,wa,jbT _,h⟩)
 induction n with
 | zero =>
   obtain ⟨g,hg⟩:=anyZ104
   exact ⟨g,hg,fun _ _ _=>trivial⟩
 | succ n ih =>
   obtain ⟨g,hg,_⟩:=ih
   obtain ⟨g2,hg2,_⟩:=anyS149 n g hg
   exact anyS104 n g2 hg2
theorem both104:∃ g:List SV→Bool,FOk Tryz.prog T 104 { pre:=fun args=>∃ a:List D,WfRow T cV a∧args=[argG cV a],res:=fun args=>.val false [.b (g args)] }∧∀ args,(fun args=>∃ a:List D,WfRow T cV a∧(a.getD 5 default).rows.length+(a.getD 6 default).rows.length≤4611686018427387904∧((a.getD 0 default).int=1∨(a.getD 0 default).int=6)∧args=[argG cV a]) args→g args=svOk args:=joinB (by obtain ⟨g,hg,_⟩:=any104;exact ⟨g,hg⟩) ud
noncomputable def g104:List SV→Bool:=both104.choose
noncomputable def wF:FSpec:={ pre:=fun args=>∃ a:List D,WfRow T cV a∧args=[argG cV a],res:=fun args=>.val false [.b (g104 args)] }
theorem ok104:FOk Tryz.prog T 104 wF:=both104.choose_spec.1
theorem qq:∀ args,(fun args=>∃ a:List D,WfRow T cV a∧(a.getD 5 default).rows.length+(a.getD 6 default).rows.length≤4611686018427387904∧((a.getD 0 default).int=1∨(a.getD 0 default).int=6)∧args=[argG cV a]) args→g104 args=svOk args:=both104.choose_spec.2
end Go.Proofs.YtkpnfbdoaljkpaaGreatDoor.Ab
