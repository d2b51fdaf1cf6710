/- Functions that return some bool or number, and small exact ones: printed by a program of this claim. -/
import Derived.Test.YtppgalpldaibhaaGreatDoorCQa
namespace Go.Proofs.YtppgalpldaibhaaGreatDoor.Ab
open Go.RowKit
set_option linter.unusedVariables false
set_option linter.unusedSimpArgs false
set_option maxRecDepth 100000
set_option maxHeartbeats 1000000
theorem ok84:FOk Tryz.prog T 84 spIn:=by
  refine fok (env:=envL []) (N:=15) tabT envL_nil mixed Tryz.func84 rfl Tryz.call84 Tryz.ntmps84 ?_
  rintro args ⟨x,lo,hi,rfl⟩ hwf
  refine ⟨by simp,?_⟩
  rw [Tryz.results84]
  repeat' first
    | (refine And.intro ?_ ?_)
    | (intro h;cases h)
    | (intro h;rw [h])
    | (intro h)
  all_goals first
    | (show lowEdges _=true;kernel_rfl)|(show logOk _ _=true;kernel_rfl)|exact True.intro|exact rfl|exact Or.inr rfl|exact Or.inl rfl
    | exact ⟨_,rfl⟩
    | exact ⟨_,_,_,rfl⟩
    | (refine resB ?_;simp_all [inR];done)
    | (refine resB ?_;simp_all [inR];omega)
theorem ok80:FOk Tryz.prog T 80 spNum:=by
  refine fok (env:=envL [(84,spIn)]) (N:=5) tabT (envL_cons ok84 envL_nil) mixed Tryz.func80 rfl Tryz.call80 Tryz.ntmps80 ?_
  rintro args ⟨x,rfl⟩ hwf
  refine ⟨by simp,?_⟩
  rw [Tryz.results80]
  repeat' first
    | (refine And.intro ?_ ?_)
    | (intro h;cases h)
    | (intro h;rw [h])
    | (intro h)
  all_goals first
    | (show lowEdges _=true;kernel_rfl)|(show logOk _ _=true;kernel_rfl)|exact True.intro|exact rfl|exact Or.inr rfl|exact Or.inl rfl
    | exact ⟨_,rfl⟩
    | exact ⟨_,_,_,rfl⟩
    | rfl
theorem ok132:FOk Tryz.prog T 132 spIn:=by
  refine fok (env:=envL []) (N:=15) tabT envL_nil mixed Tryz.func132 rfl Tryz.call132 Tryz.ntmps132 ?_
  rintro args ⟨x,lo,hi,rfl⟩ hwf
  refine ⟨by simp,?_⟩
  rw [Tryz.results132]
  repeat' first
    | (refine And.intro ?_ ?_)
    | (intro h;cases h)
    | (intro h;rw [h])
    | (intro h)
  all_goals first
    | (show lowEdges _=true;kernel_rfl)|(show logOk _ _=true;kernel_rfl)|exact True.intro|exact rfl|exact Or.inr rfl|exact Or.inl rfl
    | exact ⟨_,rfl⟩
    | exact ⟨_,_,_,rfl⟩
    | (refine resB ?_;simp_all [inR];done)
    | (refine resB ?_;simp_all [inR];omega)
theorem ok145:FOk Tryz.prog T 145 spNum:=by
  refine fok (env:=envL [(132,spIn)]) (N:=5) tabT (envL_cons ok132 envL_nil) mixed Tryz.func145 rfl Tryz.call145 Tryz.ntmps145 ?_
  rintro args ⟨x,rfl⟩ hwf
  refine ⟨by simp,?_⟩
  rw [Tryz.results145]
  repeat' first
    | (refine And.intro ?_ ?_)
    | (intro h;cases h)
    | (intro h;rw [h])
    | (intro h)
  all_goals first
    | (show lowEdges _=true;kernel_rfl)|(show logOk _ _=true;kernel_rfl)|exact True.intro|exact rfl|exact Or.inr rfl|exact Or.inl rfl
    | exact ⟨_,rfl⟩
    | exact ⟨_,_,_,rfl⟩
    | rfl
theorem any159:∃ g:List SV→Bool,FOk Tryz.prog T 159 { pre:=fun args=>∃ a:List D,WfRow T [.i .i64,.i .i64,.i .i64,.s,.l 33,.l 9,.l 91] a∧args=[argG [.i .i64,.i .i64,.i .i64,.s,.l 33,.l 9,.l 91] a],res:=fun args=>.val false [.b (g args)] }∧∀ args,(fun args=>∃ a:List D,WfRow T [.i .i64,.i .i64,.i .i64,.s,.l 33,.l 9,.l 91] a∧args=[argG [.i .i64,.i .i64,.i .i64,.s,.l 33,.l 9,.l 91] a]) args→(∀ a ∈ args,WfSV T a)→(fun _ _=>True) args (g args):=by
  refine fokA (fun _ x=>.val false [.b x]) (post:=fun _ _=>True) (env:=envL []) (N:=16) tabT envL_nil mixed Tryz.func159 rfl Tryz.call159 Tryz.ntmps159 ?_
  rintro args ⟨a,wa,rfl⟩ hwf
  refine ⟨by simp,?_⟩
  rw [Tryz.results159]
  repeat' first
    | (refine And.intro ?_ ?_)
    | (intro h;cases h)
    | (intro h;rw [h])
    | (intro h)
  all_goals first
    | (show lowEdges _=true;kernel_rfl)|(show logOk _ _=true;kernel_rfl)|exact True.intro|exact rfl|exact Or.inr rfl|exact Or.inl rfl
    | exact ⟨_,trivial,rfl,trivial⟩
    | exact ⟨_,rfl⟩
    | exact ⟨_,_,rfl⟩
    | exact ⟨_,_,_,rfl⟩
    | exact ⟨_,wa,rfl⟩
noncomputable def g159:List SV→Bool:=any159.choose
noncomputable def sp159:FSpec:={ pre:=fun args=>∃ a:List D,WfRow T [.i .i64,.i .i64,.i .i64,.s,.l 33,.l 9,.l 91] a∧args=[argG [.i .i64,.i .i64,.i .i64,.s,.l 33,.l 9,.l 91] a],res:=fun args=>.val false [.b (g159 args)] }
theorem ok159:FOk Tryz.prog T 159 sp159:=any159.choose_spec.1
theorem any130:∃ g:List SV→Int,FOk Tryz.prog T 130 { pre:=fun args=>∃ x y:Int,args=[.val false [.i .i64 x],.val false [.i .i64 y]],res:=fun args=>.val false [.i .i64 (g args)] }∧∀ args,(fun args=>∃ x y:Int,args=[.val false [.i .i64 x],.val false [.i .i64 y]]) args→(∀ a ∈ args,WfSV T a)→(fun _ _=>True) args (g args):=by
  refine fokA (fun _ x=>.val false [.i .i64 x]) (post:=fun _ _=>True) (env:=envL []) (N:=10) tabT envL_nil mixed Tryz.func130 rfl Tryz.call130 Tryz.ntmps130 ?_
  rintro args ⟨x,y,rfl⟩ hwf
  refine ⟨by simp,?_⟩
  rw [Tryz.results130]
  repeat' first
    | (refine And.intro ?_ ?_)
    | (intro h;cases h)
    | (intro h;rw [h])
    | (intro h)
  all_goals first
    | (show lowEdges _=true;kernel_rfl)|(show logOk _ _=true;kernel_rfl)|exact True.intro|exact rfl|exact Or.inr rfl|exact Or.inl rfl
    | exact ⟨_,trivial,rfl,trivial⟩
    | exact ⟨_,rfl⟩
    | exact ⟨_,_,rfl⟩
    | exact ⟨_,_,_,rfl⟩
noncomputable def g130:List SV→Int:=any130.choose
noncomputable def sp130:FSpec:={ pre:=fun args=>∃ x y:Int,args=[.val false [.i .i64 x],.val false [.i .i64 y]],res:=fun args=>.val false [.i .i64 (g130 args)] }
theorem ok130:FOk Tryz.prog T 130 sp130:=any130.choose_spec.1
theorem any81:∃ g:List SV→Bool,FOk Tryz.prog T 81 { pre:=fun args=>∃ s:ByteArray,args=[.val false [.s s]],res:=fun args=>.val false [.b (g args)] }∧∀ args,(fun args=>∃ s:ByteArray,args=[.val false [.s s]]) args→(∀ a ∈ args,WfSV T a)→(fun _ _=>True) args (g args):=by
  refine fokA (fun _ x=>.val false [.b x]) (post:=fun _ _=>True) (env:=envL []) (N:=29) tabT envL_nil mixed Tryz.func81 rfl Tryz.call81 Tryz.ntmps81 ?_
  rintro args ⟨s,rfl⟩ hwf
  have la:s.size≤maxLen:=arg0 hwf (List.mem_singleton_self _)
  refine ⟨by simp,?_⟩
  rw [Tryz.results81]
  repeat' first
    | (refine And.intro ?_ ?_)
    | (intro h;cases h)
    | (intro h;rw [h])
    | (intro h)
  all_goals first
    | (show lowEdges _=true;kernel_rfl)|(show logOk _ _=true;kernel_rfl)|exact True.intro|exact rfl|exact Or.inr rfl|exact Or.inl rfl
    | exact ⟨_,trivial,rfl,trivial⟩
    | exact ⟨_,rfl⟩
    | exact ⟨_,_,rfl⟩
    | exact ⟨_,_,_,rfl⟩
    | skip
  refine awp_loop (Q:=_) [0,3] [] (fun n q=>∃ i:Int,q=([.val false [.s s],.val false [.i .i64 i]],[])∧0≤i∧i≤s.size∧n=s.size - i.toNat) ?_ ?_
  · exact ⟨rfl,s.size - 0,0,rfl,by omega,by omega,rfl⟩
  rintro n q ⟨i,rfl,h1,h2,h3⟩
  repeat' first
    | (refine And.intro ?_ ?_)
    | (intro h;cases h)
    | (intro h;rw [h])
    | (intro h)
  all_goals first
    | (show lowEdges _=true;kernel_rfl)|(show logOk _ _=true;kernel_rfl)|exact True.intro|exact rfl|exact Or.inr rfl|exact Or.inl rfl
    | exact ⟨_,trivial,rfl,trivial⟩
    | exact ⟨_,rfl⟩
    | exact ⟨_,_,rfl⟩
    | exact ⟨_,_,_,rfl⟩
    | omega
    | exact of_decide_eq_true ‹_›
    | (have hi:i < (s.size:Int):=of_decide_eq_true ‹decide (i < (s.size:Int))=true›
       exact ⟨s.size - (i+1).toNat,by omega,i+1,congrArg (fun z:Int=>((([.val false [.s s],.val false [.i .i64 z]],[])):Snap)) (wrap_next h1 hi la),by omega,by omega,rfl⟩)
noncomputable def g81:List SV→Bool:=any81.choose
noncomputable def sp81:FSpec:={ pre:=fun args=>∃ s:ByteArray,args=[.val false [.s s]],res:=fun args=>.val false [.b (g81 args)] }
theorem ok81:FOk Tryz.prog T 81 sp81:=any81.choose_spec.1
theorem any267:∃ g:List SV→Bool,FOk Tryz.prog T 267 { pre:=fun args=>∃ s:ByteArray,args=[.val false [.s s]],res:=fun args=>.val false [.b (g args)] }∧∀ args,(fun args=>∃ s:ByteArray,args=[.val false [.s s]]) args→(∀ a ∈ args,WfSV T a)→(fun _ _=>True) args (g args):=by
  refine fokA (fun _ x=>.val false [.b x]) (post:=fun _ _=>True) (env:=envL []) (N:=45) tabT envL_nil mixed Tryz.func267 rfl Tryz.call267 Tryz.ntmps267 ?_
  rintro args ⟨s,rfl⟩ hwf
  have la:s.size≤maxLen:=arg0 hwf (List.mem_singleton_self _)
  refine ⟨by simp,?_⟩
  rw [Tryz.results267]
  repeat' first
    | (refine And.intro ?_ ?_)
    | (intro h;cases h)
    | (intro h;rw [h])
    | (intro h)
  all_goals first
    | (show lowEdges _=true;kernel_rfl)|(show logOk _ _=true;kernel_rfl)|exact True.intro|exact rfl|exact Or.inr rfl|exact Or.inl rfl
    | exact ⟨_,trivial,rfl,trivial⟩
    | exact ⟨_,rfl⟩
    | exact ⟨_,_,rfl⟩
    | exact ⟨_,_,_,rfl⟩
    | skip
  refine awp_loop (Q:=_) [0,3] [] (fun n q=>∃ i:Int,q=([.val false [.s s],.val false [.i .i64 i]],[])∧0≤i∧i≤s.size∧n=s.size - i.toNat) ?_ ?_
  · exact ⟨rfl,s.size - 0,0,rfl,by omega,by omega,rfl⟩
  rintro n q ⟨i,rfl,h1,h2,h3⟩
  repeat' first
    | (refine And.intro ?_ ?_)
    | (intro h;cases h)
    | (intro h;rw [h])
    | (intro h)
  all_goals first
    | (show lowEdges _=true;kernel_rfl)|(show logOk _ _=true;kernel_rfl)|exact True.intro|exact rfl|exact Or.inr rfl|exact Or.inl rfl
    | exact ⟨_,trivial,rfl,trivial⟩
    | exact ⟨_,rfl⟩
    | exact ⟨_,_,rfl⟩
    | exact ⟨_,_,_,rfl⟩
    | omega
    | exact of_decide_eq_true ‹_›
    | (have hi:i < (s.size:Int):=of_decide_eq_true ‹decide (i < (s.size:Int))=true›
       exact ⟨s.size - (i+1).toNat,by omega,i+1,congrArg (fun z:Int=>((([.val false [.s s],.val false [.i .i64 z]],[])):Snap)) (wrap_next h1 hi la),by omega,by omega,rfl⟩)
noncomputable def g267:List SV→Bool:=any267.choose
noncomputable def sp267:FSpec:={ pre:=fun args=>∃ s:ByteArray,args=[.val false [.s s]],res:=fun args=>.val false [.b (g267 args)] }
theorem ok267:FOk Tryz.prog T 267 sp267:=any267.choose_spec.1
theorem any269:∃ g:List SV→Bool,FOk Tryz.prog T 269 { pre:=fun args=>∃ (a:List (List D)) (s:ByteArray),args=[argS 9 a,.val false [.s s]],res:=fun args=>.val false [.b (g args)] }∧∀ args,(fun args=>∃ (a:List (List D)) (s:ByteArray),args=[argS 9 a,.val false [.s s]]) args→(∀ a ∈ args,WfSV T a)→(fun _ _=>True) args (g args):=by
  refine fokA (fun _ x=>.val false [.b x]) (post:=fun _ _=>True) (env:=envL []) (N:=18) tabT envL_nil mixed Tryz.func269 rfl Tryz.call269 Tryz.ntmps269 ?_
  rintro args ⟨a,s,rfl⟩ hwf
  have wa:WfD T (.l 9) (.l a):=arg0 hwf (List.mem_singleton_self _)
  have la:=wa.len
  refine ⟨by simp,?_⟩
  rw [Tryz.results269]
  repeat' first
    | (refine And.intro ?_ ?_)
    | (intro h;cases h)
    | (intro h;rw [h])
    | (intro h)
  all_goals first
    | (show lowEdges _=true;kernel_rfl)|(show logOk _ _=true;kernel_rfl)|exact True.intro|exact rfl|exact Or.inr rfl|exact Or.inl rfl
    | exact ⟨_,trivial,rfl,trivial⟩
    | exact ⟨_,rfl⟩
    | exact ⟨_,_,rfl⟩
    | exact ⟨_,_,_,rfl⟩
    | skip
  refine awp_loop (Q:=_) [0,1,5] [] (fun n q=>∃ i:Int,q=([argS 9 a,.val false [.s s],.val false [.i .i64 i]],[])∧0≤i∧i≤a.length∧n=a.length - i.toNat) ?_ ?_
  · exact ⟨rfl,a.length - 0,0,rfl,by omega,by omega,rfl⟩
  rintro n q ⟨i,rfl,h1,h2,h3⟩
  repeat' first
    | (refine And.intro ?_ ?_)
    | (intro h;cases h)
    | (intro h;rw [h])
    | (intro h)
  all_goals first
    | (show lowEdges _=true;kernel_rfl)|(show logOk _ _=true;kernel_rfl)|exact True.intro|exact rfl|exact Or.inr rfl|exact Or.inl rfl
    | exact ⟨_,trivial,rfl,trivial⟩
    | exact ⟨_,rfl⟩
    | exact ⟨_,_,rfl⟩
    | exact ⟨_,_,_,rfl⟩
    | omega
    | exact of_decide_eq_true ‹_›
    | (have hi:i < (a.length:Int):=of_decide_eq_true ‹decide (i < (a.length:Int))=true›
       exact ⟨a.length - (i+1).toNat,by omega,i+1,congrArg (fun z:Int=>((([argS 9 a,.val false [.s s],.val false [.i .i64 z]],[])):Snap)) (wrap_next h1 hi la),by omega,by omega,rfl⟩)
noncomputable def g269:List SV→Bool:=any269.choose
noncomputable def sp269:FSpec:={ pre:=fun args=>∃ (a:List (List D)) (s:ByteArray),args=[argS 9 a,.val false [.s s]],res:=fun args=>.val false [.b (g269 args)] }
theorem ok269:FOk Tryz.prog T 269 sp269:=any269.choose_spec.1
theorem any309:∃ h:List SV→List (List D),FOk Tryz.prog T 309 { pre:=fun args=>args=[],res:=fun args=>argS 9 (h args) }∧∀ args,args=[]→(∀ a ∈ args,WfSV T a)→True:=by
  refine fokA (fun _ x=>argS 9 x) (post:=fun _ _=>True) (env:=envL []) (N:=2) tabT envL_nil mixed Tryz.func309 rfl Tryz.call309 Tryz.ntmps309 ?_
  rintro args rfl hwf
  refine ⟨by simp,?_⟩
  rw [Tryz.results309]
  repeat' first
    | (refine And.intro ?_ ?_)
    | (intro h;cases h)
    | (intro h;rw [h])
    | (intro h)
  all_goals first
    | (show lowEdges _=true;kernel_rfl)|(show logOk _ _=true;kernel_rfl)|exact True.intro|exact rfl|exact Or.inr rfl|exact Or.inl rfl
    | omega
    | decide
    | exact ⟨_,trivial,rfl,trivial⟩
noncomputable def g309:List SV→List (List D):=any309.choose
noncomputable def sp309:FSpec:={ pre:=fun args=>args=[],res:=fun args=>argS 9 (g309 args) }
theorem ok309:FOk Tryz.prog T 309 sp309:=any309.choose_spec.1
theorem any268:∃ g:List SV→Bool,FOk Tryz.prog T 268 { pre:=fun args=>∃ s:ByteArray,args=[.val false [.s s]],res:=fun args=>.val false [.b (g args)] }∧∀ args,(fun args=>∃ s:ByteArray,args=[.val false [.s s]]) args→(∀ a ∈ args,WfSV T a)→(fun _ _=>True) args (g args):=by
  refine fokA (fun _ x=>.val false [.b x]) (post:=fun _ _=>True) (env:=envL [(309,sp309),(269,sp269)]) (N:=6) tabT (envL_cons ok309 (envL_cons ok269 envL_nil)) mixed Tryz.func268 rfl Tryz.call268 Tryz.ntmps268 ?_
  rintro args ⟨s,rfl⟩ hwf
  have la:s.size≤maxLen:=arg0 hwf (List.mem_singleton_self _)
  refine ⟨by simp,?_⟩
  rw [Tryz.results268]
  repeat' first
    | (refine And.intro ?_ ?_)
    | (intro h;cases h)
    | (intro h;rw [h])
    | (intro h)
  all_goals first
    | (show lowEdges _=true;kernel_rfl)|(show logOk _ _=true;kernel_rfl)|exact True.intro|exact rfl|exact Or.inr rfl|exact Or.inl rfl
    | rfl
    | exact ⟨_,trivial,rfl,trivial⟩
    | exact ⟨_,rfl⟩
    | exact ⟨_,_,rfl⟩
    | exact ⟨_,_,_,rfl⟩
noncomputable def g268:List SV→Bool:=any268.choose
noncomputable def sp268:FSpec:={ pre:=fun args=>∃ s:ByteArray,args=[.val false [.s s]],res:=fun args=>.val false [.b (g268 args)] }
theorem ok268:FOk Tryz.prog T 268 sp268:=any268.choose_spec.1
theorem any232:∃ g:List SV→Bool,FOk Tryz.prog T 232 { pre:=fun args=>∃ s:ByteArray,args=[.val false [.s s]],res:=fun args=>.val false [.b (g args)] }∧∀ args,(fun args=>∃ s:ByteArray,args=[.val false [.s s]]) args→(∀ a ∈ args,WfSV T a)→(fun _ _=>True) args (g args):=by
  refine fokA (fun _ x=>.val false [.b x]) (post:=fun _ _=>True) (env:=envL [(267,sp267),(268,sp268)]) (N:=15) tabT (envL_cons ok267 (envL_cons ok268 envL_nil)) mixed Tryz.func232 rfl Tryz.call232 Tryz.ntmps232 ?_
  rintro args ⟨s,rfl⟩ hwf
  have la:s.size≤maxLen:=arg0 hwf (List.mem_singleton_self _)
  refine ⟨by simp,?_⟩
  rw [Tryz.results232]
  repeat' first
    | (refine And.intro ?_ ?_)
    | (intro h;cases h)
    | (intro h;rw [h])
    | (intro h)
  all_goals first
    | (show lowEdges _=true;kernel_rfl)|(show logOk _ _=true;kernel_rfl)|exact True.intro|exact rfl|exact Or.inr rfl|exact Or.inl rfl
    | exact ⟨_,trivial,rfl,trivial⟩
    | exact ⟨_,rfl⟩
    | exact ⟨_,_,rfl⟩
    | exact ⟨_,_,_,rfl⟩
noncomputable def g232:List SV→Bool:=any232.choose
noncomputable def sp232:FSpec:={ pre:=fun args=>∃ s:ByteArray,args=[.val false [.s s]],res:=fun args=>.val false [.b (g232 args)] }
theorem ok232:FOk Tryz.prog T 232 sp232:=any232.choose_spec.1
theorem any233:∃ g:List SV→Bool,FOk Tryz.prog T 233 { pre:=fun args=>∃ a:List (List D),args=[argS 9 a],res:=fun args=>.val false [.b (g args)] }∧∀ args,(fun args=>∃ a:List (List D),args=[argS 9 a]) args→(∀ a ∈ args,WfSV T a)→(fun _ _=>True) args (g args):=by
  refine fokA (fun _ x=>.val false [.b x]) (post:=fun _ _=>True) (env:=envL [(269,sp269)]) (N:=18) tabT (envL_cons ok269 envL_nil) mixed Tryz.func233 rfl Tryz.call233 Tryz.ntmps233 ?_
  rintro args ⟨a,rfl⟩ hwf
  have wa:WfD T (.l 9) (.l a):=arg0 hwf (List.mem_singleton_self _)
  have la:=wa.len
  refine ⟨by simp,?_⟩
  rw [Tryz.results233]
  repeat' first
    | (refine And.intro ?_ ?_)
    | (intro h;cases h)
    | (intro h;rw [h])
    | (intro h)
  all_goals first
    | (show lowEdges _=true;kernel_rfl)|(show logOk _ _=true;kernel_rfl)|exact True.intro|exact rfl|exact Or.inr rfl|exact Or.inl rfl
    | exact ⟨_,trivial,rfl,trivial⟩
    | exact ⟨_,rfl⟩
    | exact ⟨_,_,rfl⟩
    | exact ⟨_,_,_,rfl⟩
    | skip
  refine awp_loop (Q:=_) [0,3] [] (fun n q=>∃ i:Int,q=([argS 9 a,.val false [.i .i64 i]],[])∧0≤i∧i≤a.length∧n=a.length - i.toNat) ?_ ?_
  · exact ⟨rfl,a.length - 0,0,rfl,by omega,by omega,rfl⟩
  rintro n q ⟨i,rfl,h1,h2,h3⟩
  repeat' first
    | (refine And.intro ?_ ?_)
    | (intro h;cases h)
    | (intro h;rw [h])
    | (intro h)
  all_goals first
    | (show lowEdges _=true;kernel_rfl)|(show logOk _ _=true;kernel_rfl)|exact True.intro|exact rfl|exact Or.inr rfl|exact Or.inl rfl
    | exact ⟨_,trivial,rfl,trivial⟩
    | exact ⟨_,rfl⟩
    | exact ⟨_,_,rfl⟩
    | exact ⟨_,_,_,rfl⟩
    | omega
    | exact of_decide_eq_true ‹_›
    | (have hi:i < (a.length:Int):=of_decide_eq_true ‹decide (i < (a.length:Int))=true›
       exact ⟨a.length - (i+1).toNat,by omega,i+1,congrArg (fun z:Int=>((([argS 9 a,.val false [.i .i64 z]],[])):Snap)) (wrap_next h1 hi la),by omega,by omega,rfl⟩)
noncomputable def g233:List SV→Bool:=any233.choose
noncomputable def sp233:FSpec:={ pre:=fun args=>∃ a:List (List D),args=[argS 9 a],res:=fun args=>.val false [.b (g233 args)] }
theorem ok233:FOk Tryz.prog T 233 sp233:=any233.choose_spec.1
theorem any161:∃ g:List SV→Bool,FOk Tryz.prog T 161 { pre:=fun args=>∃ a:List (List D),args=[argS 9 a],res:=fun args=>.val false [.b (g args)] }∧∀ args,(fun args=>∃ a:List (List D),args=[argS 9 a]) args→(∀ a ∈ args,WfSV T a)→(fun _ _=>True) args (g args):=by
  refine fokA (fun _ x=>.val false [.b x]) (post:=fun _ _=>True) (env:=envL [(232,sp232),(84,spIn),(233,sp233)]) (N:=23) tabT (envL_cons ok232 (envL_cons ok84 (envL_cons ok233 envL_nil))) mixed Tryz.func161 rfl Tryz.call161 Tryz.ntmps161 ?_
  rintro args ⟨a,rfl⟩ hwf
  have wa:WfD T (.l 9) (.l a):=arg0 hwf (List.mem_singleton_self _)
  have la:=wa.len
  refine ⟨by simp,?_⟩
  rw [Tryz.results161]
  repeat' first
    | (refine And.intro ?_ ?_)
    | (intro h;cases h)
    | (intro h;rw [h])
    | (intro h)
  all_goals first
    | (show lowEdges _=true;kernel_rfl)|(show logOk _ _=true;kernel_rfl)|exact True.intro|exact rfl|exact Or.inr rfl|exact Or.inl rfl
    | exact ⟨_,trivial,rfl,trivial⟩
    | exact ⟨_,rfl⟩
    | exact ⟨_,_,rfl⟩
    | exact ⟨_,_,_,rfl⟩
    | skip
  refine awp_loop (Q:=_) [0,3] [] (fun n q=>∃ i:Int,q=([argS 9 a,.val false [.i .i64 i]],[])∧0≤i∧i≤a.length∧n=a.length - i.toNat) ?_ ?_
  · exact ⟨rfl,a.length - 0,0,rfl,by omega,by omega,rfl⟩
  rintro n q ⟨i,rfl,h1,h2,h3⟩
  repeat' first
    | (refine And.intro ?_ ?_)
    | (intro h;cases h)
    | (intro h;rw [h])
    | (intro h)
  all_goals first
    | (show lowEdges _=true;kernel_rfl)|(show logOk _ _=true;kernel_rfl)|exact True.intro|exact rfl|exact Or.inr rfl|exact Or.inl rfl
    | exact ⟨_,trivial,rfl,trivial⟩
    | exact ⟨_,rfl⟩
    | exact ⟨_,_,rfl⟩
    | exact ⟨_,_,_,rfl⟩
    | omega
    | exact of_decide_eq_true ‹_›
    | (have hi:i < (a.length:Int):=of_decide_eq_true ‹decide (i < (a.length:Int))=true›
       exact ⟨a.length - (i+1).toNat,by omega,i+1,congrArg (fun z:Int=>((([argS 9 a,.val false [.i .i64 z]],[])):Snap)) (wrap_next h1 hi la),by omega,by omega,rfl⟩)
noncomputable def g161:List SV→Bool:=any161.choose
noncomputable def sp161:FSpec:={ pre:=fun args=>∃ a:List (List D),args=[argS 9 a],res:=fun args=>.val false [.b (g161 args)] }
theorem ok161:FOk Tryz.prog T 161 sp161:=any161.choose_spec.1
theorem any234:∃ g:List SV→Bool,FOk Tryz.prog T 234 { pre:=fun args=>∃ a b:List D,WfRow T [.i .i64,.i .i64] a∧WfRow T [.i .i64,.i .i64] b∧args=[argG [.i .i64,.i .i64] a,argG [.i .i64,.i .i64] b],res:=fun args=>.val false [.b (g args)] }∧∀ args,(fun args=>∃ a b:List D,WfRow T [.i .i64,.i .i64] a∧WfRow T [.i .i64,.i .i64] b∧args=[argG [.i .i64,.i .i64] a,argG [.i .i64,.i .i64] b]) args→(∀ a ∈ args,WfSV T a)→(fun _ _=>True) args (g args):=by
  refine fokA (fun _ x=>.val false [.b x]) (post:=fun _ _=>True) (env:=envL []) (N:=24) tabT envL_nil mixed Tryz.func234 rfl Tryz.call234 Tryz.ntmps234 ?_
  rintro args ⟨a,b,wa,wb,rfl⟩ hwf
  refine ⟨by simp,?_⟩
  rw [Tryz.results234]
  repeat' first
    | (refine And.intro ?_ ?_)
    | (intro h;cases h)
    | (intro h;rw [h])
    | (intro h)
  all_goals first
    | (show lowEdges _=true;kernel_rfl)|(show logOk _ _=true;kernel_rfl)|exact True.intro|exact rfl|exact Or.inr rfl|exact Or.inl rfl
    | exact ⟨_,trivial,rfl,trivial⟩
    | exact ⟨_,rfl⟩
    | exact ⟨_,_,rfl⟩
    | exact ⟨_,_,_,rfl⟩
    | exact ⟨_,_,wa,wb,rfl⟩
noncomputable def g234:List SV→Bool:=any234.choose
noncomputable def sp234:FSpec:={ pre:=fun args=>∃ a b:List D,WfRow T [.i .i64,.i .i64] a∧WfRow T [.i .i64,.i .i64] b∧args=[argG [.i .i64,.i .i64] a,argG [.i .i64,.i .i64] b],res:=fun args=>.val false [.b (g234 args)] }
theorem ok234:FOk Tryz.prog T 234 sp234:=any234.choose_spec.1
theorem any162:∃ g:List SV→Bool,FOk Tryz.prog T 162 { pre:=fun args=>∃ a:List (List D),args=[argS 153 a],res:=fun args=>.val false [.b (g args)] }∧∀ args,(fun args=>∃ a:List (List D),args=[argS 153 a]) args→(∀ a ∈ args,WfSV T a)→(fun _ _=>True) args (g args):=by
  refine fokA (fun _ x=>.val false [.b x]) (post:=fun _ _=>True) (env:=envL [(234,sp234)]) (N:=41) tabT (envL_cons ok234 envL_nil) mixed Tryz.func162 rfl Tryz.call162 Tryz.ntmps162 ?_
  rintro args ⟨a,rfl⟩ hwf
  have wa:WfD T (.l 153) (.l a):=arg0 hwf (List.mem_singleton_self _)
  have la:=wa.len
  refine ⟨by simp,?_⟩
  rw [Tryz.results162]
  repeat' first
    | (refine And.intro ?_ ?_)
    | (intro h;cases h)
    | (intro h;rw [h])
    | (intro h)
  all_goals first
    | (show lowEdges _=true;kernel_rfl)|(show logOk _ _=true;kernel_rfl)|exact True.intro|exact rfl|exact Or.inr rfl|exact Or.inl rfl
    | exact ⟨_,trivial,rfl,trivial⟩
    | exact ⟨_,rfl⟩
    | exact ⟨_,_,rfl⟩
    | exact ⟨_,_,_,rfl⟩
    | skip
  refine awp_loop (Q:=_) [0,3] [] (fun n q=>∃ i:Int,q=([argS 153 a,.val false [.i .i64 i]],[])∧0≤i∧i≤a.length∧n=a.length - i.toNat) ?_ ?_
  · exact ⟨rfl,a.length - 0,0,rfl,by omega,by omega,rfl⟩
  rintro n q ⟨i,rfl,h1,h2,h3⟩
  repeat' first
    | (refine And.intro ?_ ?_)
    | (intro h;cases h)
    | (intro h;rw [h])
    | (intro h)
  all_goals first
    | (show lowEdges _=true;kernel_rfl)|(show logOk _ _=true;kernel_rfl)|exact True.intro|exact rfl|exact Or.inr rfl|exact Or.inl rfl
    | exact ⟨_,trivial,rfl,trivial⟩
    | exact ⟨_,rfl⟩
    | exact ⟨_,_,rfl⟩
    | exact ⟨_,_,_,rfl⟩
    | omega
    | exact of_decide_eq_true ‹_›
    | (have hi:i < (a.length:Int):=of_decide_eq_true ‹decide (i < (a.length:Int))=true›
       exact ⟨a.length - (i+1).toNat,by omega,i+1,congrArg (fun z:Int=>((([argS 153 a,.val false [.i .i64 z]],[])):Snap)) (wrap_next h1 hi la),by omega,by omega,rfl⟩)
    | (have hi:i < (a.length:Int):=of_decide_eq_true ‹decide (i < (a.length:Int))=true›
       have h0:i > 0:=of_decide_eq_true ‹decide (i > 0)=true›
       have hw:IntKind.i64.wrap (i - 1)=i - 1:=by rw [IntKind.wrap_i64];simp only [maxLen] at la;omega
       have wr:WfRow T [.i .i64,.i .i64] (a.getD i.toNat []):=wa.row rfl (by omega)
       have wq:WfRow T [.i .i64,.i .i64] (a.getD (IntKind.i64.wrap (i - 1)).toNat []):=wa.row rfl (by rw [hw];omega)
       first
         | (rw [hw];omega)
         | exact ⟨_,_,wq,wr,rfl⟩)
noncomputable def g162:List SV→Bool:=any162.choose
noncomputable def sp162:FSpec:={ pre:=fun args=>∃ a:List (List D),args=[argS 153 a],res:=fun args=>.val false [.b (g162 args)] }
theorem ok162:FOk Tryz.prog T 162 sp162:=any162.choose_spec.1
end Go.Proofs.YtppgalpldaibhaaGreatDoor.Ab
