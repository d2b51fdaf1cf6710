/- Functions that call themselves, and tables: printed by a program of this claim. Functions that call themselves, and tables: printed by a program of this claim. -/
import Derived.Test.YtppgalpldaibhaaGreatDoorCVb
namespace Go.Proofs.YtppgalpldaibhaaGreatDoor.Ab
open Go.RowKit
set_option linter.unusedVariables false
set_option linter.unusedSimpArgs false
set_option maxRecDepth 100000
set_option maxHeartbeats 1000000
theorem anyS160 (n:Nat) (g160:List SV→Int) (hn:FOk Tryz.prog T 160 { pre:=fun args=>∃ a:List D,WfRow T [.i .i64,.i .i64,.i .i64,.s,.l 33,.l 9,.l 91] a∧SizeOf.sizeOf a < n∧args=[argG [.i .i64,.i .i64,.i .i64,.s,.l 33,.l 9,.l 91] a],res:=fun args=>.val false [.i .i64 (g160 args)] }):∃ g:List SV→Int,FOk Tryz.prog T 160 { pre:=fun args=>∃ a:List D,WfRow T [.i .i64,.i .i64,.i .i64,.s,.l 33,.l 9,.l 91] a∧SizeOf.sizeOf a < n+1∧args=[argG [.i .i64,.i .i64,.i .i64,.s,.l 33,.l 9,.l 91] a],res:=fun args=>.val false [.i .i64 (g args)] }∧∀ args,(fun args=>∃ a:List D,WfRow T [.i .i64,.i .i64,.i .i64,.s,.l 33,.l 9,.l 91] a∧SizeOf.sizeOf a < n+1∧args=[argG [.i .i64,.i .i64,.i .i64,.s,.l 33,.l 9,.l 91] a]) args→(∀ a ∈ args,WfSV T a)→(fun _ _=>True) args (g args):=by
  refine fokA (fun _ x=>.val false [.i .i64 x]) (post:=fun _ _=>True) (env:=envL [(160, { pre:=fun args=>∃ a:List D,WfRow T [.i .i64,.i .i64,.i .i64,.s,.l 33,.l 9,.l 91] a∧SizeOf.sizeOf a < n∧args=[argG [.i .i64,.i .i64,.i .i64,.s,.l 33,.l 9,.l 91] a],res:=fun args=>.val false [.i .i64 (g160 args)] }),(130,sp130)]) (N:=22) tabT (envL_cons hn (envL_cons ok130 envL_nil)) mixed Tryz.func160 rfl Tryz.call160 Tryz.ntmps160 ?_
  rintro args ⟨a,wa,hs,rfl⟩ hwf
  refine ⟨by simp,?_⟩
  rw [Tryz.results160]
  have wA:WfD T (.l 33) (.l (a.getD 4 default).rows):=wa.rows (j:=4) rfl
  have la:=wA.len
  repeat' first
    | (refine And.intro ?_ ?_)
    | (intro h;cases h)
    | (intro h;rw [h])
    | (intro h)
  all_goals first
    | (show lowEdges _=true;kernel_rfl)|(show logOk _ _=true;kernel_rfl)|exact True.intro|exact rfl|exact Or.inr rfl|exact Or.inl rfl
    | exact ⟨_,trivial,rfl,trivial⟩
    | exact ⟨_,rfl⟩
    | exact ⟨_,_,rfl⟩
    | exact ⟨_,_,_,rfl⟩
    | exact ⟨_,wa,rfl⟩
    | skip
  refine awp_loop (Q:=_) [1,3,4] [1] (fun n q=>∃ (i z:Int),q=([.ptr 1 1 0,.val false [.i .i64 z],.val false [.i .i64 i]],[(1,(rowC [.i .i64,.i .i64,.i .i64,.s,.l 33,.l 9,.l 91] a).map fun c=>.val false [c])])∧0≤i∧i≤(a.getD 4 default).rows.length∧n=(a.getD 4 default).rows.length - i.toNat) ?_ ?_
  · exact ⟨rfl,(a.getD 4 default).rows.length - 0,0,0,rfl,by omega,by omega,rfl⟩
  rintro n q ⟨i,z,rfl,h1,h2,h3⟩
  repeat' first
    | (refine And.intro ?_ ?_)
    | (intro h;cases h)
    | (intro h;rw [h])
    | (intro h)
  all_goals first
    | (show lowEdges _=true;kernel_rfl)|(show logOk _ _=true;kernel_rfl)|exact True.intro|exact rfl|exact Or.inr rfl|exact Or.inl rfl
    | exact ⟨_,trivial,rfl,trivial⟩
    | exact ⟨_,rfl⟩
    | exact ⟨_,_,rfl⟩
    | exact ⟨_,_,_,rfl⟩
    | exact ⟨_,wa,rfl⟩
    | omega
    | exact of_decide_eq_true ‹_›
    | (have hi:i < ((a.getD 4 default).rows.length:Int):=of_decide_eq_true ‹decide (i < ((a.getD 4 default).rows.length:Int))=true›
       exact ⟨(a.getD 4 default).rows.length - (i+1).toNat,by omega,i+1,_,snapN (fun z j=>(([.ptr 1 1 0,.val false [.i .i64 z],.val false [.i .i64 j]],[(1,(rowC [.i .i64,.i .i64,.i .i64,.s,.l 33,.l 9,.l 91] a).map fun c=>.val false [c])]))) _ h1 hi la,by omega,by omega,rfl⟩)
    | (have hi:i < ((a.getD 4 default).rows.length:Int):=of_decide_eq_true ‹decide (i < ((a.getD 4 default).rows.length:Int))=true›
       have wr:WfRow T [.i .i64,.i .i64,.i .i64,.s,.l 33,.l 9,.l 91] ((a.getD 4 default).rows.getD i.toNat []):=wA.row rfl (by omega)
       first
         | exact ⟨_,wr,rfl⟩
         | exact ⟨_,wr,Nat.lt_of_lt_of_le (Nat.lt_trans (size_row (by omega)) (size_cell (by rw [wa.1];decide))) (Nat.le_of_lt_succ hs),rfl⟩)
theorem anyZ160:∃ g:List SV→Int,FOk Tryz.prog T 160 { pre:=fun args=>∃ a:List D,WfRow T [.i .i64,.i .i64,.i .i64,.s,.l 33,.l 9,.l 91] a∧SizeOf.sizeOf a < 0∧args=[argG [.i .i64,.i .i64,.i .i64,.s,.l 33,.l 9,.l 91] a],res:=fun args=>.val false [.i .i64 (g args)] }:=by
  refine ⟨fun _=>default,fok (env:=envL []) (N:=22) tabT envL_nil mixed Tryz.func160 rfl Tryz.call160 Tryz.ntmps160 ?_⟩
  rintro args ⟨a,wa,hs,rfl⟩ _
  exact absurd hs (Nat.not_lt_zero _)
theorem any160:∃ g:List SV→Int,FOk Tryz.prog T 160 { pre:=fun args=>∃ a:List D,WfRow T [.i .i64,.i .i64,.i .i64,.s,.l 33,.l 9,.l 91] a∧args=[argG [.i .i64,.i .i64,.i .i64,.s,.l 33,.l 9,.l 91] a],res:=fun args=>.val false [.i .i64 (g args)] }∧∀ args,(fun args=>∃ a:List D,WfRow T [.i .i64,.i .i64,.i .i64,.s,.l 33,.l 9,.l 91] a∧args=[argG [.i .i64,.i .i64,.i .i64,.s,.l 33,.l 9,.l 91] a]) args→(∀ a ∈ args,WfSV T a)→True:=by
  refine liftA (fun _ x=>.val false [.i .i64 x]) (post:=fun _ _=>True) (pre:=fun n args=>∃ a:List D,WfRow T [.i .i64,.i .i64,.i .i64,.s,.l 33,.l 9,.l 91] a∧SizeOf.sizeOf a < n∧args=[argG [.i .i64,.i .i64,.i .i64,.s,.l 33,.l 9,.l 91] a]) (fun n=>?_) (fun args ⟨a,wa,h⟩=>⟨SizeOf.sizeOf a+1,a,wa,Nat.lt_succ_self _,h⟩)
  induction n with
  | zero =>
    obtain ⟨g,hg⟩:=anyZ160
    exact ⟨g,hg,fun _ _ _=>trivial⟩
  | succ n ih =>
    obtain ⟨g,hg,_⟩:=ih
    exact anyS160 n g hg
noncomputable def g160:List SV→Int:=any160.choose
noncomputable def sp160:FSpec:={ pre:=fun args=>∃ a:List D,WfRow T [.i .i64,.i .i64,.i .i64,.s,.l 33,.l 9,.l 91] a∧args=[argG [.i .i64,.i .i64,.i .i64,.s,.l 33,.l 9,.l 91] a],res:=fun args=>.val false [.i .i64 (g160 args)] }
theorem ok160:FOk Tryz.prog T 160 sp160:=any160.choose_spec.1
theorem any83:∃ g:List SV→Bool,FOk Tryz.prog T 83 { pre:=fun args=>∃ a:List D,WfRow T [.i .i64,.i .i64,.i .i64,.s,.l 33,.l 9,.l 91] a∧args=[argG [.i .i64,.i .i64,.i .i64,.s,.l 33,.l 9,.l 91] a],res:=fun args=>.val false [.b (g args)] }∧∀ args,(fun args=>∃ a:List D,WfRow T [.i .i64,.i .i64,.i .i64,.s,.l 33,.l 9,.l 91] a∧args=[argG [.i .i64,.i .i64,.i .i64,.s,.l 33,.l 9,.l 91] a]) args→(∀ a ∈ args,WfSV T a)→True:=by
  refine fokA (fun _ x=>.val false [.b x]) (post:=fun _ _=>True) (env:=envL [(161,sp161),(162,sp162),(80,spNum)]) (N:=55) tabT (envL_cons ok161 (envL_cons ok162 (envL_cons ok80 envL_nil))) mixed Tryz.func83 rfl Tryz.call83 Tryz.ntmps83 ?_
  rintro args ⟨a,wa,rfl⟩ hwf
  have wA:WfD T (.l 91) (.l (a.getD 6 default).rows):=wa.rows (j:=6) rfl
  have la:=wA.len
  refine ⟨by simp,?_⟩
  rw [Tryz.results83]
  repeat' first
    | (refine And.intro ?_ ?_)
    | (intro h;cases h)
    | (intro h;rw [h])
    | (intro h)
  all_goals first
    | (show lowEdges _=true;kernel_rfl)|(show logOk _ _=true;kernel_rfl)|exact True.intro|exact rfl|exact Or.inr rfl|exact Or.inl rfl
    | exact ⟨_,trivial,rfl,trivial⟩
    | exact ⟨_,rfl⟩
    | skip
  refine awp_loop (Q:=_) [1,3] [1] (fun n q=>∃ i:Int,q=([.ptr 1 1 0,.val false [.i .i64 i]],[(1,(rowC [.i .i64,.i .i64,.i .i64,.s,.l 33,.l 9,.l 91] a).map fun c=>.val false [c])])∧0≤i∧i≤(a.getD 6 default).rows.length∧n=(a.getD 6 default).rows.length - i.toNat) ?_ ?_
  · exact ⟨rfl,(a.getD 6 default).rows.length - 0,0,rfl,by omega,by omega,rfl⟩
  rintro n q ⟨i,rfl,h1,h2,h3⟩
  repeat' first
    | (refine And.intro ?_ ?_)
    | (intro h;cases h)
    | (intro h;rw [h])
    | (intro h)
  all_goals first
    | (show lowEdges _=true;kernel_rfl)|(show logOk _ _=true;kernel_rfl)|exact True.intro|exact rfl|exact Or.inr rfl|exact Or.inl rfl
    | exact ⟨_,trivial,rfl,trivial⟩
    | omega
    | exact of_decide_eq_true ‹_›
    | exact ⟨_,rfl⟩
    | skip
  have hi:i < ((a.getD 6 default).rows.length:Int):=of_decide_eq_true ‹decide (i < ((a.getD 6 default).rows.length:Int))=true›
  have wr:WfRow T [.l 3,.l 153] ((a.getD 6 default).rows.getD i.toNat []):=wA.row rfl (by omega)
  have wB:WfD T (.l 3) (.l (((a.getD 6 default).rows.getD i.toNat []).getD 0 default).rows):=wr.rows (j:=0) rfl
  have lb:=wB.len
  refine awp_loop (Q:=_) [1,3,4,5] [1,4] (fun n q=>∃ k:Int,q=([.ptr 1 1 0,.val false [.i .i64 i],.ptr 4 1 0,.val false [.i .i64 k]],[(1,(rowC [.i .i64,.i .i64,.i .i64,.s,.l 33,.l 9,.l 91] a).map fun c=>.val false [c]),(1,(rowC [.l 3,.l 153] ((a.getD 6 default).rows.getD i.toNat [])).map fun c=>.val false [c])])∧0≤k∧k≤(((a.getD 6 default).rows.getD i.toNat []).getD 0 default).rows.length∧n=(((a.getD 6 default).rows.getD i.toNat []).getD 0 default).rows.length - k.toNat) ?_ ?_
  · exact ⟨rfl,(((a.getD 6 default).rows.getD i.toNat []).getD 0 default).rows.length - 0,0,rfl,by omega,by omega,rfl⟩
  rintro m q ⟨k,rfl,k1,k2,k3⟩
  repeat' first
    | (refine And.intro ?_ ?_)
    | (intro h;cases h)
    | (intro h;rw [h])
    | (intro h)
  all_goals first
    | (show lowEdges _=true;kernel_rfl)|(show logOk _ _=true;kernel_rfl)|exact True.intro|exact rfl|exact Or.inr rfl|exact Or.inl rfl
    | exact ⟨_,trivial,rfl,trivial⟩
    | omega
    | exact of_decide_eq_true ‹_›
    | exact ⟨_,rfl⟩
    | exact ⟨(a.getD 6 default).rows.length - (i+1).toNat,by omega,i+1,congrArg (fun z:Int=>(([.ptr 1 1 0,.val false [.i .i64 z]],[(1,(rowC [.i .i64,.i .i64,.i .i64,.s,.l 33,.l 9,.l 91] a).map fun c=>.val false [c])]):Snap)) (wrap_next h1 hi la),by omega,by omega,rfl⟩
    | (have hk:k < ((((a.getD 6 default).rows.getD i.toNat []).getD 0 default).rows.length:Int):=of_decide_eq_true ‹decide (k < ((((a.getD 6 default).rows.getD i.toNat []).getD 0 default).rows.length:Int))=true›
       exact ⟨(((a.getD 6 default).rows.getD i.toNat []).getD 0 default).rows.length - (k+1).toNat,by omega,k+1,congrArg (fun z:Int=>(([.ptr 1 1 0,.val false [.i .i64 i],.ptr 4 1 0,.val false [.i .i64 z]],[(1,(rowC [.i .i64,.i .i64,.i .i64,.s,.l 33,.l 9,.l 91] a).map fun c=>.val false [c]),(1,(rowC [.l 3,.l 153] ((a.getD 6 default).rows.getD i.toNat [])).map fun c=>.val false [c])]):Snap)) (wrap_next k1 hk lb),by omega,by omega,rfl⟩)
noncomputable def g83:List SV→Bool:=any83.choose
noncomputable def sp83:FSpec:={ pre:=fun args=>∃ a:List D,WfRow T [.i .i64,.i .i64,.i .i64,.s,.l 33,.l 9,.l 91] a∧args=[argG [.i .i64,.i .i64,.i .i64,.s,.l 33,.l 9,.l 91] a],res:=fun args=>.val false [.b (g83 args)] }
theorem ok83:FOk Tryz.prog T 83 sp83:=any83.choose_spec.1
theorem anyS82 (n:Nat) (g23:List SV→Bool) (hn:FOk Tryz.prog T 23 { pre:=fun args=>∃ a:List D,WfRow T [.i .i64,.i .i64,.i .i64,.s,.l 33,.l 9,.l 91] a∧SizeOf.sizeOf a < n∧args=[argG [.i .i64,.i .i64,.i .i64,.s,.l 33,.l 9,.l 91] a],res:=fun args=>.val false [.b (g23 args)] }):∃ g:List SV→Bool,FOk Tryz.prog T 82 { pre:=fun args=>∃ a:List D,WfRow T [.i .i64,.i .i64,.i .i64,.s,.l 33,.l 9,.l 91] a∧SizeOf.sizeOf a < n+1∧args=[argG [.i .i64,.i .i64,.i .i64,.s,.l 33,.l 9,.l 91] a],res:=fun args=>.val false [.b (g args)] }∧∀ args,(fun args=>∃ a:List D,WfRow T [.i .i64,.i .i64,.i .i64,.s,.l 33,.l 9,.l 91] a∧SizeOf.sizeOf a < n+1∧args=[argG [.i .i64,.i .i64,.i .i64,.s,.l 33,.l 9,.l 91] a]) args→(∀ a ∈ args,WfSV T a)→(fun _ _=>True) args (g args):=by
  refine fokA (fun _ x=>.val false [.b x]) (post:=fun _ _=>True) (env:=envL [(159,sp159),(23, { pre:=fun args=>∃ a:List D,WfRow T [.i .i64,.i .i64,.i .i64,.s,.l 33,.l 9,.l 91] a∧SizeOf.sizeOf a < n∧args=[argG [.i .i64,.i .i64,.i .i64,.s,.l 33,.l 9,.l 91] a],res:=fun args=>.val false [.b (g23 args)] }),(160,sp160)]) (N:=36) tabT (envL_cons ok159 (envL_cons hn (envL_cons ok160 envL_nil))) mixed Tryz.func82 rfl Tryz.call82 Tryz.ntmps82 ?_
  rintro args ⟨a,wa,hs,rfl⟩ hwf
  refine ⟨by simp,?_⟩
  rw [Tryz.results82]
  have wA:WfD T (.l 33) (.l (a.getD 4 default).rows):=wa.rows (j:=4) rfl
  have la:=wA.len
  repeat' first
    | (refine And.intro ?_ ?_)
    | (intro h;cases h)
    | (intro h;rw [h])
    | (intro h)
  all_goals first
    | (show lowEdges _=true;kernel_rfl)|(show logOk _ _=true;kernel_rfl)|exact True.intro|exact rfl|exact Or.inr rfl|exact Or.inl rfl
    | exact ⟨_,trivial,rfl,trivial⟩
    | exact ⟨_,rfl⟩
    | exact ⟨_,_,rfl⟩
    | exact ⟨_,_,_,rfl⟩
    | exact ⟨_,wa,rfl⟩
    | skip
  refine awp_loop (Q:=_) [1,3] [1] (fun n q=>∃ i:Int,q=([.ptr 1 1 0,.val false [.i .i64 i]],[(1,(rowC [.i .i64,.i .i64,.i .i64,.s,.l 33,.l 9,.l 91] a).map fun c=>.val false [c])])∧0≤i∧i≤(a.getD 4 default).rows.length∧n=(a.getD 4 default).rows.length - i.toNat) ?_ ?_
  · exact ⟨rfl,(a.getD 4 default).rows.length - 0,0,rfl,by omega,by omega,rfl⟩
  rintro n q ⟨i,rfl,h1,h2,h3⟩
  repeat' first
    | (refine And.intro ?_ ?_)
    | (intro h;cases h)
    | (intro h;rw [h])
    | (intro h)
  all_goals first
    | (show lowEdges _=true;kernel_rfl)|(show logOk _ _=true;kernel_rfl)|exact True.intro|exact rfl|exact Or.inr rfl|exact Or.inl rfl
    | exact ⟨_,trivial,rfl,trivial⟩
    | exact ⟨_,rfl⟩
    | exact ⟨_,_,rfl⟩
    | exact ⟨_,_,_,rfl⟩
    | exact ⟨_,wa,rfl⟩
    | omega
    | exact of_decide_eq_true ‹_›
    | (have hi:i < ((a.getD 4 default).rows.length:Int):=of_decide_eq_true ‹decide (i < ((a.getD 4 default).rows.length:Int))=true›
       exact ⟨(a.getD 4 default).rows.length - (i+1).toNat,by omega,i+1,congrArg (fun z:Int=>((([.ptr 1 1 0,.val false [.i .i64 z]],[(1,(rowC [.i .i64,.i .i64,.i .i64,.s,.l 33,.l 9,.l 91] a).map fun c=>.val false [c])])):Snap)) (wrap_next h1 hi la),by omega,by omega,rfl⟩)
    | (have hi:i < ((a.getD 4 default).rows.length:Int):=of_decide_eq_true ‹decide (i < ((a.getD 4 default).rows.length:Int))=true›
       have wr:WfRow T [.i .i64,.i .i64,.i .i64,.s,.l 33,.l 9,.l 91] ((a.getD 4 default).rows.getD i.toNat []):=wA.row rfl (by omega)
       first
         | exact ⟨_,wr,rfl⟩
         | exact ⟨_,wr,Nat.lt_of_lt_of_le (Nat.lt_trans (size_row (by omega)) (size_cell (by rw [wa.1];decide))) (Nat.le_of_lt_succ hs),rfl⟩)
theorem anyS23 (n:Nat) (g82:List SV→Bool) (hn:FOk Tryz.prog T 82 { pre:=fun args=>∃ a:List D,WfRow T [.i .i64,.i .i64,.i .i64,.s,.l 33,.l 9,.l 91] a∧SizeOf.sizeOf a < n+1∧args=[argG [.i .i64,.i .i64,.i .i64,.s,.l 33,.l 9,.l 91] a],res:=fun args=>.val false [.b (g82 args)] }):∃ g:List SV→Bool,FOk Tryz.prog T 23 { pre:=fun args=>∃ a:List D,WfRow T [.i .i64,.i .i64,.i .i64,.s,.l 33,.l 9,.l 91] a∧SizeOf.sizeOf a < n+1∧args=[argG [.i .i64,.i .i64,.i .i64,.s,.l 33,.l 9,.l 91] a],res:=fun args=>.val false [.b (g args)] }∧∀ args,(∃ a:List D,WfRow T [.i .i64,.i .i64,.i .i64,.s,.l 33,.l 9,.l 91] a∧SizeOf.sizeOf a < n+1∧args=[argG [.i .i64,.i .i64,.i .i64,.s,.l 33,.l 9,.l 91] a])→(∀ a ∈ args,WfSV T a)→True:=by
  have hE:EnvOk Tryz.prog T (envL [(80,spNum),(81,sp81),(82, { pre:=fun args=>∃ a:List D,WfRow T [.i .i64,.i .i64,.i .i64,.s,.l 33,.l 9,.l 91] a∧SizeOf.sizeOf a < n+1∧args=[argG [.i .i64,.i .i64,.i .i64,.s,.l 33,.l 9,.l 91] a],res:=fun args=>.val false [.b (g82 args)] }),(83,sp83),(84,spIn)]):=(envL_cons ok80 (envL_cons ok81 (envL_cons hn (envL_cons ok83 (envL_cons ok84 envL_nil)))))
  refine fokSA (N:=95) (fun _ x=>.val false [.b x]) (post:=fun _ _=>True) tabT Tryz.func23 rfl Tryz.call23 Tryz.ntmps23 ?_
  rintro args ⟨a,wa,hs,rfl⟩ hwf
  refine ⟨by simp,?_⟩
  rw [Tryz.results23]
  clear hwf
  refine Snd.seq tabT hE mixed ?_
  repeat' first
    | (refine And.intro ?_ ?_)
    | (intro h;cases h)
    | (intro h;rw [h])
    | (intro h)
  all_goals first
    | exact ⟨_,trivial,rfl,trivial⟩
    | (show lowEdges _=true;kernel_rfl)|(show logOk _ _=true;kernel_rfl)|exact True.intro|exact rfl|exact Or.inr rfl|exact Or.inl rfl
    | rfl
    | exact ⟨_,rfl⟩
    | exact ⟨_,_,rfl⟩
    | exact ⟨_,_,_,rfl⟩
    | exact ⟨_,wa,hs,rfl⟩
    | exact ⟨_,wa,rfl⟩
    | skip
  refine Snd.cut2 tabT hE mixed [1,2] [1] (fun q=>q=([.ptr 1 1 0,.val false [.b false]],[(1,(rowC [.i .i64,.i .i64,.i .i64,.s,.l 33,.l 9,.l 91] a).map fun c=>.val false [c])])) ?_ ?_
  · repeat' first
      | (refine And.intro ?_ ?_)
      | (intro h;cases h)
      | (intro h;rw [h])
      | (intro h)
    all_goals first
      | exact ⟨_,trivial,rfl,trivial⟩
      | (show lowEdges _=true;kernel_rfl)|(show logOk _ _=true;kernel_rfl)|exact True.intro|exact rfl|exact Or.inr rfl|exact Or.inl rfl
      | rfl
      | exact ⟨_,rfl⟩
      | exact ⟨_,_,rfl⟩
      | exact ⟨_,_,_,rfl⟩
      | exact ⟨_,wa,hs,rfl⟩
      | exact ⟨_,wa,rfl⟩
  rintro q rfl
  refine Snd.cut2 tabT hE mixed [1,2] [1] (fun q=>q=([.ptr 1 1 0,.val false [.b false]],[(1,(rowC [.i .i64,.i .i64,.i .i64,.s,.l 33,.l 9,.l 91] a).map fun c=>.val false [c])])) ?_ ?_
  · repeat' first
      | (refine And.intro ?_ ?_)
      | (intro h;cases h)
      | (intro h;rw [h])
      | (intro h)
    all_goals first
      | exact ⟨_,trivial,rfl,trivial⟩
      | (show lowEdges _=true;kernel_rfl)|(show logOk _ _=true;kernel_rfl)|exact True.intro|exact rfl|exact Or.inr rfl|exact Or.inl rfl
      | rfl
      | exact ⟨_,rfl⟩
      | exact ⟨_,_,rfl⟩
      | exact ⟨_,_,_,rfl⟩
      | exact ⟨_,wa,hs,rfl⟩
      | exact ⟨_,wa,rfl⟩
  rintro q rfl
  refine Snd.of_awp tabT hE mixed ?_
  repeat' first
    | (refine And.intro ?_ ?_)
    | (intro h;cases h)
    | (intro h;rw [h])
    | (intro h)
  all_goals first
    | exact ⟨_,trivial,rfl,trivial⟩
    | (show lowEdges _=true;kernel_rfl)|(show logOk _ _=true;kernel_rfl)|exact True.intro|exact rfl|exact Or.inr rfl|exact Or.inl rfl
    | rfl
    | exact ⟨_,rfl⟩
    | exact ⟨_,_,rfl⟩
    | exact ⟨_,_,_,rfl⟩
    | exact ⟨_,wa,hs,rfl⟩
    | exact ⟨_,wa,rfl⟩
theorem anyZ23:∃ g:List SV→Bool,FOk Tryz.prog T 23 { pre:=fun args=>∃ a:List D,WfRow T [.i .i64,.i .i64,.i .i64,.s,.l 33,.l 9,.l 91] a∧SizeOf.sizeOf a < 0∧args=[argG [.i .i64,.i .i64,.i .i64,.s,.l 33,.l 9,.l 91] a],res:=fun args=>.val false [.b (g args)] }:=by
  refine ⟨fun _=>default,fok (env:=envL []) (N:=95) tabT envL_nil mixed Tryz.func23 rfl Tryz.call23 Tryz.ntmps23 ?_⟩
  rintro args ⟨a,wa,hs,rfl⟩ _
  exact absurd hs (Nat.not_lt_zero _)
noncomputable def svOk:List SV→Bool
  | [.val _ cs]=>okVal (csD cs)
  | _=>false
theorem okF82:FOk Tryz.prog T 82 { pre:=fun _=>False,res:=fun _=>.none }:=by
  refine fok (env:=envL []) (N:=36) tabT envL_nil mixed Tryz.func82 rfl Tryz.call82 Tryz.ntmps82 ?_
  exact fun args h=>h.elim
theorem okF81:FOk Tryz.prog T 81 { pre:=fun _=>False,res:=fun _=>.none }:=by
  refine fok (env:=envL []) (N:=29) tabT envL_nil mixed Tryz.func81 rfl Tryz.call81 Tryz.ntmps81 ?_
  exact fun args h=>h.elim
theorem okF83:FOk Tryz.prog T 83 { pre:=fun _=>False,res:=fun _=>.none }:=by
  refine fok (env:=envL []) (N:=55) tabT envL_nil mixed Tryz.func83 rfl Tryz.call83 Tryz.ntmps83 ?_
  exact fun args h=>h.elim
theorem exact23:FOk Tryz.prog T 23 { pre:=fun args=>∃ a:List D,WfRow T [.i .i64,.i .i64,.i .i64,.s,.l 33,.l 9,.l 91] a∧(a.getD 5 default).rows.length+(a.getD 6 default).rows.length≤4611686018427387904∧((a.getD 0 default).int=1∨(a.getD 0 default).int=6)∧args=[argG [.i .i64,.i .i64,.i .i64,.s,.l 33,.l 9,.l 91] a],res:=fun args=>.val false [.b (svOk args)] }:=by
  refine fok (env:=envL [(80,spNum),(81, { pre:=fun _=>False,res:=fun _=>.none }),(82, { pre:=fun _=>False,res:=fun _=>.none }),(83, { pre:=fun _=>False,res:=fun _=>.none }),(84,spIn)]) (N:=95) tabT (envL_cons ok80 (envL_cons okF81 (envL_cons okF82 (envL_cons okF83 (envL_cons ok84 envL_nil))))) mixed Tryz.func23 rfl Tryz.call23 Tryz.ntmps23 ?_
  rintro args ⟨a,wa,hl,hk,rfl⟩ hwf
  refine ⟨by simp,?_⟩
  rw [Tryz.results23]
  clear hwf
  obtain ⟨d0,r0,rfl,w0,wa⟩:=wa.cons'
  obtain ⟨d1,r1,rfl,w1,wa⟩:=wa.cons'
  obtain ⟨d2,r2,rfl,w2,wa⟩:=wa.cons'
  obtain ⟨d3,r3,rfl,w3,wa⟩:=wa.cons'
  obtain ⟨d4,r4,rfl,w4,wa⟩:=wa.cons'
  obtain ⟨d5,r5,rfl,w5,wa⟩:=wa.cons'
  obtain ⟨d6,r6,rfl,w6,wa⟩:=wa.cons'
  obtain rfl:=wa.nil'
  obtain ⟨n0,rfl,_⟩:=w0.int'
  obtain ⟨n1,rfl,_⟩:=w1.int'
  obtain ⟨n2,rfl,_⟩:=w2.int'
  obtain ⟨s3,rfl,_⟩:=w3.str'
  obtain ⟨l4,rfl,_⟩:=w4.sl'
  obtain ⟨l5,rfl,_⟩:=w5.sl'
  obtain ⟨l6,rfl,_⟩:=w6.sl'
  clear w0 w1 w2 w3 w4 w5 w6
  have hl:l5.length+l6.length≤4611686018427387904:=hl
  have hk:n0=1∨n0=6:=hk
  rcases hk with rfl|rfl
  all_goals
    repeat' first
      | (refine And.intro ?_ ?_)
      | (intro h;cases h)
      | (intro h;rw [h])
      | (intro h)
  all_goals first
    | (show lowEdges _=true;kernel_rfl)|(show logOk _ _=true;kernel_rfl)|exact True.intro|exact rfl|exact Or.inr rfl|exact Or.inl rfl
    | exact ⟨_,rfl⟩
    | exact ⟨_,_,_,rfl⟩
    | (refine resB ?_;show _=okVal [_,_,_,_,_,_,_];simp_all [okVal,inR,CV.d,ofD,IntKind.wrap_i64,List.getD_cons_succ,List.getD_cons_zero,D.int,D.rows,D.str];done)
    | (refine resB ?_;show _=okVal [_,_,_,_,_,_,_];simp_all [okVal,inR,CV.d,ofD,IntKind.wrap_i64,List.getD_cons_succ,List.getD_cons_zero,D.int,D.rows,D.str];simp only [← List.length_eq_zero_iff] at *;intros;omega)
    | (refine resB ?_;show _=okVal [_,_,_,_,_,_,_];simp_all [okVal,inR,CV.d,ofD,IntKind.wrap_i64,List.getD_cons_succ,List.getD_cons_zero,D.int,D.rows,D.str];done)
theorem any23:∃ g:List SV→Bool,FOk Tryz.prog T 23 { pre:=fun args=>∃ a:List D,WfRow T [.i .i64,.i .i64,.i .i64,.s,.l 33,.l 9,.l 91] a∧args=[argG [.i .i64,.i .i64,.i .i64,.s,.l 33,.l 9,.l 91] a],res:=fun args=>.val false [.b (g args)] }∧∀ args,(fun args=>∃ a:List D,WfRow T [.i .i64,.i .i64,.i .i64,.s,.l 33,.l 9,.l 91] a∧args=[argG [.i .i64,.i .i64,.i .i64,.s,.l 33,.l 9,.l 91] a]) args→(∀ a ∈ args,WfSV T a)→True:=by
  refine liftA (fun _ x=>.val false [.b x]) (post:=fun _ _=>True) (pre:=fun n args=>∃ a:List D,WfRow T [.i .i64,.i .i64,.i .i64,.s,.l 33,.l 9,.l 91] a∧SizeOf.sizeOf a < n∧args=[argG [.i .i64,.i .i64,.i .i64,.s,.l 33,.l 9,.l 91] a]) (fun n=>?_) (fun args ⟨a,wa,h⟩=>⟨SizeOf.sizeOf a+1,a,wa,Nat.lt_succ_self _,h⟩)
  induction n with
  | zero =>
    obtain ⟨g,hg⟩:=anyZ23
    exact ⟨g,hg,fun _ _ _=>trivial⟩
  | succ n ih =>
    obtain ⟨g,hg,_⟩:=ih
    obtain ⟨g2,hg2,_⟩:=anyS82 n g hg
    exact anyS23 n g2 hg2
theorem both23:∃ g:List SV→Bool,FOk Tryz.prog T 23 { pre:=fun args=>∃ a:List D,WfRow T [.i .i64,.i .i64,.i .i64,.s,.l 33,.l 9,.l 91] a∧args=[argG [.i .i64,.i .i64,.i .i64,.s,.l 33,.l 9,.l 91] a],res:=fun args=>.val false [.b (g args)] }∧∀ args,(fun args=>∃ a:List D,WfRow T [.i .i64,.i .i64,.i .i64,.s,.l 33,.l 9,.l 91] a∧(a.getD 5 default).rows.length+(a.getD 6 default).rows.length≤4611686018427387904∧((a.getD 0 default).int=1∨(a.getD 0 default).int=6)∧args=[argG [.i .i64,.i .i64,.i .i64,.s,.l 33,.l 9,.l 91] a]) args→g args=svOk args:=joinB (by obtain ⟨g,hg,_⟩:=any23;exact ⟨g,hg⟩) exact23
noncomputable def g23:List SV→Bool:=both23.choose
noncomputable def sp23:FSpec:={ pre:=fun args=>∃ a:List D,WfRow T [.i .i64,.i .i64,.i .i64,.s,.l 33,.l 9,.l 91] a∧args=[argG [.i .i64,.i .i64,.i .i64,.s,.l 33,.l 9,.l 91] a],res:=fun args=>.val false [.b (g23 args)] }
theorem ok23:FOk Tryz.prog T 23 sp23:=both23.choose_spec.1
theorem val23:∀ args,(fun args=>∃ a:List D,WfRow T [.i .i64,.i .i64,.i .i64,.s,.l 33,.l 9,.l 91] a∧(a.getD 5 default).rows.length+(a.getD 6 default).rows.length≤4611686018427387904∧((a.getD 0 default).int=1∨(a.getD 0 default).int=6)∧args=[argG [.i .i64,.i .i64,.i .i64,.s,.l 33,.l 9,.l 91] a]) args→g23 args=svOk args:=both23.choose_spec.2
end Go.Proofs.YtppgalpldaibhaaGreatDoor.Ab
