/- Functions that return some bool or number, and small exact ones: printed by a program of -/
import Derived.Test.YtkpnfbdoaljkpaaGreatDoorCQa
namespace Go.Proofs.YtkpnfbdoaljkpaaGreatDoor.Ab
open Go.RowKit
set_option linter.all false
set_option maxRecDepth 100000
set_option maxHeartbeats 1000000
theorem ok49:FOk Tryz.prog T 49 spIn:=by
 refine fok (env:=envL []) (N:=15) tabT ae mixed Tryz.func49 rfl Tryz.call49 Tryz.ntmps49 ?_
 rintro args ⟨x,lo,hi,rfl⟩ hwf
 refine ⟨by simp,?_⟩
 rw [Tryz.results49]
 repeat' first
  | (refine And.intro ?_ ?_)
  | (intro h;cases h)
  | (intro h;rw [h])
  | (intro h)
 all_goals first
  | (show ac _=true;kernel_rfl)|(show aj _ _=true;kernel_rfl)|exact True.intro|exact rfl|exact Or.inr rfl|exact Or.inl rfl
  | exact ⟨_,rfl⟩
  | exact ⟨_,_,_,rfl⟩
  | (refine resB ?_;simp_all [inR];done)
  | (refine resB ?_;simp_all [inR];omega)
theorem ok147:FOk Tryz.prog T 147 jW:=by
 refine fok (env:=envL [(49,spIn)]) (N:=5) tabT (aa ok49 ae) mixed Tryz.func147 rfl Tryz.call147 Tryz.ntmps147 ?_
 rintro args ⟨x,rfl⟩ hwf
 refine ⟨by simp,?_⟩
 rw [Tryz.results147]
 repeat' first
  | (refine And.intro ?_ ?_)
  | (intro h;cases h)
  | (intro h;rw [h])
  | (intro h)
 all_goals first
  | (show ac _=true;kernel_rfl)|(show aj _ _=true;kernel_rfl)|exact True.intro|exact rfl|exact Or.inr rfl|exact Or.inl rfl
  | exact ⟨_,rfl⟩
  | exact ⟨_,_,_,rfl⟩
  | rfl
theorem ok50:FOk Tryz.prog T 50 spIn:=by
 refine fok (env:=envL []) (N:=15) tabT ae mixed Tryz.func50 rfl Tryz.call50 Tryz.ntmps50 ?_
 rintro args ⟨x,lo,hi,rfl⟩ hwf
 refine ⟨by simp,?_⟩
 rw [Tryz.results50]
 repeat' first
  | (refine And.intro ?_ ?_)
  | (intro h;cases h)
  | (intro h;rw [h])
  | (intro h)
 all_goals first
  | (show ac _=true;kernel_rfl)|(show aj _ _=true;kernel_rfl)|exact True.intro|exact rfl|exact Or.inr rfl|exact Or.inl rfl
  | exact ⟨_,rfl⟩
  | exact ⟨_,_,_,rfl⟩
  | (refine resB ?_;simp_all [inR];done)
  | (refine resB ?_;simp_all [inR];omega)
theorem ok159:FOk Tryz.prog T 159 jW:=by
 refine fok (env:=envL [(50,spIn)]) (N:=5) tabT (aa ok50 ae) mixed Tryz.func159 rfl Tryz.call159 Tryz.ntmps159 ?_
 rintro args ⟨x,rfl⟩ hwf
 refine ⟨by simp,?_⟩
 rw [Tryz.results159]
 repeat' first
  | (refine And.intro ?_ ?_)
  | (intro h;cases h)
  | (intro h;rw [h])
  | (intro h)
 all_goals first
  | (show ac _=true;kernel_rfl)|(show aj _ _=true;kernel_rfl)|exact True.intro|exact rfl|exact Or.inr rfl|exact Or.inl rfl
  | exact ⟨_,rfl⟩
  | exact ⟨_,_,_,rfl⟩
  | rfl
theorem any182:∃ g:List SV→Bool,FOk Tryz.prog T 182 { pre:=fun args=>∃ a:List D,WfRow T cV a∧args=[argG cV a],res:=fun args=>.val false [.b (g args)] }∧∀ args,(fun args=>∃ a:List D,WfRow T cV a∧args=[argG cV a]) args→(∀ a ∈ args,WfSV T a)→(fun _ _=>True) args (g args):=by
 refine fokA (fun _ x=>.val false [.b x]) (post:=fun _ _=>True) (env:=envL []) (N:=16) tabT ae mixed Tryz.func182 rfl Tryz.call182 Tryz.ntmps182 ?_
 rintro args ⟨a,wa,rfl⟩ hwf
 refine ⟨by simp,?_⟩
 rw [Tryz.results182]
 repeat' first
  | (refine And.intro ?_ ?_)
  | (intro h;cases h)
  | (intro h;rw [h])
  | (intro h)
 all_goals first
  | (show ac _=true;kernel_rfl)|(show aj _ _=true;kernel_rfl)|exact True.intro|exact rfl|exact Or.inr rfl|exact Or.inl rfl
  | exact ⟨_,trivial,rfl,trivial⟩
  | exact ⟨_,rfl⟩
  | exact ⟨_,_,rfl⟩
  | exact ⟨_,_,_,rfl⟩
  | exact ⟨_,wa,rfl⟩
noncomputable def g182:List SV→Bool:=any182.choose
noncomputable def yZ:FSpec:={ pre:=fun args=>∃ a:List D,WfRow T cV a∧args=[argG cV a],res:=fun args=>.val false [.b (g182 args)] }
theorem ok182:FOk Tryz.prog T 182 yZ:=any182.choose_spec.1
theorem any47:∃ g:List SV→Int,FOk Tryz.prog T 47 { pre:=fun args=>∃ x y:Int,args=[.val false [.i .i64 x],.val false [.i .i64 y]],res:=fun args=>.val false [.i .i64 (g args)] }∧∀ args,(fun args=>∃ x y:Int,args=[.val false [.i .i64 x],.val false [.i .i64 y]]) args→(∀ a ∈ args,WfSV T a)→(fun _ _=>True) args (g args):=by
 refine fokA (fun _ x=>.val false [.i .i64 x]) (post:=fun _ _=>True) (env:=envL []) (N:=10) tabT ae mixed Tryz.func47 rfl Tryz.call47 Tryz.ntmps47 ?_
 rintro args ⟨x,y,rfl⟩ hwf
 refine ⟨by simp,?_⟩
 rw [Tryz.results47]
 repeat' first
  | (refine And.intro ?_ ?_)
  | (intro h;cases h)
  | (intro h;rw [h])
  | (intro h)
 all_goals first
  | (show ac _=true;kernel_rfl)|(show aj _ _=true;kernel_rfl)|exact True.intro|exact rfl|exact Or.inr rfl|exact Or.inl rfl
  | exact ⟨_,trivial,rfl,trivial⟩
  | exact ⟨_,rfl⟩
  | exact ⟨_,_,rfl⟩
  | exact ⟨_,_,_,rfl⟩
noncomputable def g47:List SV→Int:=any47.choose
noncomputable def sp47:FSpec:={ pre:=fun args=>∃ x y:Int,args=[.val false [.i .i64 x],.val false [.i .i64 y]],res:=fun args=>.val false [.i .i64 (g47 args)] }
theorem ok47:FOk Tryz.prog T 47 sp47:=any47.choose_spec.1
theorem any148:∃ g:List SV→Bool,FOk Tryz.prog T 148 { pre:=fun args=>∃ s:ByteArray,args=[.val false [.s s]],res:=fun args=>.val false [.b (g args)] }∧∀ args,(fun args=>∃ s:ByteArray,args=[.val false [.s s]]) args→(∀ a ∈ args,WfSV T a)→(fun _ _=>True) args (g args):=by
 refine fokA (fun _ x=>.val false [.b x]) (post:=fun _ _=>True) (env:=envL []) (N:=29) tabT ae mixed Tryz.func148 rfl Tryz.call148 Tryz.ntmps148 ?_
 rintro args ⟨s,rfl⟩ hwf
 have la:s.size≤maxLen:=arg0 hwf (jbb _)
 refine ⟨by simp,?_⟩
 rw [Tryz.results148]
 repeat' first
  | (refine And.intro ?_ ?_)
  | (intro h;cases h)
  | (intro h;rw [h])
  | (intro h)
 all_goals first
  | (show ac _=true;kernel_rfl)|(show aj _ _=true;kernel_rfl)|exact True.intro|exact rfl|exact Or.inr rfl|exact Or.inl rfl
  | exact ⟨_,trivial,rfl,trivial⟩
  | exact ⟨_,rfl⟩
  | exact ⟨_,_,rfl⟩
  | exact ⟨_,_,_,rfl⟩
  | skip
 refine ar (Q:=_) [0,3] [] (fun n q=>∃ i:Int,q=([.val false [.s s],.val false [.i .i64 i]],[])∧0≤i∧i≤s.size∧n=s.size - i.toNat) ?_ ?_
 · exact ⟨rfl,s.size - 0,0,rfl,by omega,by omega,rfl⟩
 rintro n q ⟨i,rfl,h1,h2,h3⟩
 repeat' first
  | (refine And.intro ?_ ?_)
  | (intro h;cases h)
  | (intro h;rw [h])
  | (intro h)
 all_goals first
  | (show ac _=true;kernel_rfl)|(show aj _ _=true;kernel_rfl)|exact True.intro|exact rfl|exact Or.inr rfl|exact Or.inl rfl
  | exact ⟨_,trivial,rfl,trivial⟩
  | exact ⟨_,rfl⟩
  | exact ⟨_,_,rfl⟩
  | exact ⟨_,_,_,rfl⟩
  | omega
  | exact jaT ‹_›
  | (have hi:i < (s.size:Int):=jaT ‹decide (i < (s.size:Int))=true›
     exact ⟨s.size - (i+1).toNat,by omega,i+1,congrArg (fun z:Int=>((([.val false [.s s],.val false [.i .i64 z]],[])):Snap)) (aA h1 hi la),by omega,by omega,rfl⟩)
noncomputable def g148:List SV→Bool:=any148.choose
noncomputable def y9:FSpec:={ pre:=fun args=>∃ s:ByteArray,args=[.val false [.s s]],res:=fun args=>.val false [.b (g148 args)] }
theorem ok148:FOk Tryz.prog T 148 y9:=any148.choose_spec.1
theorem any246:∃ g:List SV→Bool,FOk Tryz.prog T 246 { pre:=fun args=>∃ s:ByteArray,args=[.val false [.s s]],res:=fun args=>.val false [.b (g args)] }∧∀ args,(fun args=>∃ s:ByteArray,args=[.val false [.s s]]) args→(∀ a ∈ args,WfSV T a)→(fun _ _=>True) args (g args):=by
 refine fokA (fun _ x=>.val false [.b x]) (post:=fun _ _=>True) (env:=envL []) (N:=45) tabT ae mixed Tryz.func246 rfl Tryz.call246 Tryz.ntmps246 ?_
 rintro args ⟨s,rfl⟩ hwf
 have la:s.size≤maxLen:=arg0 hwf (jbb _)
 refine ⟨by simp,?_⟩
 rw [Tryz.results246]
 repeat' first
  | (refine And.intro ?_ ?_)
  | (intro h;cases h)
  | (intro h;rw [h])
  | (intro h)
 all_goals first
  | (show ac _=true;kernel_rfl)|(show aj _ _=true;kernel_rfl)|exact True.intro|exact rfl|exact Or.inr rfl|exact Or.inl rfl
  | exact ⟨_,trivial,rfl,trivial⟩
  | exact ⟨_,rfl⟩
  | exact ⟨_,_,rfl⟩
  | exact ⟨_,_,_,rfl⟩
  | skip
 refine ar (Q:=_) [0,3] [] (fun n q=>∃ i:Int,q=([.val false [.s s],.val false [.i .i64 i]],[])∧0≤i∧i≤s.size∧n=s.size - i.toNat) ?_ ?_
 · exact ⟨rfl,s.size - 0,0,rfl,by omega,by omega,rfl⟩
 rintro n q ⟨i,rfl,h1,h2,h3⟩
 repeat' first
  | (refine And.intro ?_ ?_)
  | (intro h;cases h)
  | (intro h;rw [h])
  | (intro h)
 all_goals first
  | (show ac _=true;kernel_rfl)|(show aj _ _=true;kernel_rfl)|exact True.intro|exact rfl|exact Or.inr rfl|exact Or.inl rfl
  | exact ⟨_,trivial,rfl,trivial⟩
  | exact ⟨_,rfl⟩
  | exact ⟨_,_,rfl⟩
  | exact ⟨_,_,_,rfl⟩
  | omega
  | exact jaT ‹_›
  | (have hi:i < (s.size:Int):=jaT ‹decide (i < (s.size:Int))=true›
     exact ⟨s.size - (i+1).toNat,by omega,i+1,congrArg (fun z:Int=>((([.val false [.s s],.val false [.i .i64 z]],[])):Snap)) (aA h1 hi la),by omega,by omega,rfl⟩)
noncomputable def g246:List SV→Bool:=any246.choose
noncomputable def yS:FSpec:={ pre:=fun args=>∃ s:ByteArray,args=[.val false [.s s]],res:=fun args=>.val false [.b (g246 args)] }
theorem ok246:FOk Tryz.prog T 246 yS:=any246.choose_spec.1
theorem any248:∃ g:List SV→Bool,FOk Tryz.prog T 248 { pre:=fun args=>∃ (a:List (List D)) (s:ByteArray),args=[argS 9 a,.val false [.s s]],res:=fun args=>.val false [.b (g args)] }∧∀ args,(fun args=>∃ (a:List (List D)) (s:ByteArray),args=[argS 9 a,.val false [.s s]]) args→(∀ a ∈ args,WfSV T a)→(fun _ _=>True) args (g args):=by
 refine fokA (fun _ x=>.val false [.b x]) (post:=fun _ _=>True) (env:=envL []) (N:=18) tabT ae mixed Tryz.func248 rfl Tryz.call248 Tryz.ntmps248 ?_
 rintro args ⟨a,s,rfl⟩ hwf
 have wa:WfD T (.l 9) (.l a):=arg0 hwf (jbb _)
 have la:=wa.len
 refine ⟨by simp,?_⟩
 rw [Tryz.results248]
 repeat' first
  | (refine And.intro ?_ ?_)
  | (intro h;cases h)
  | (intro h;rw [h])
  | (intro h)
 all_goals first
  | (show ac _=true;kernel_rfl)|(show aj _ _=true;kernel_rfl)|exact True.intro|exact rfl|exact Or.inr rfl|exact Or.inl rfl
  | exact ⟨_,trivial,rfl,trivial⟩
  | exact ⟨_,rfl⟩
  | exact ⟨_,_,rfl⟩
  | exact ⟨_,_,_,rfl⟩
  | skip
 refine ar (Q:=_) [0,1,5] [] (fun n q=>∃ i:Int,q=([argS 9 a,.val false [.s s],.val false [.i .i64 i]],[])∧0≤i∧i≤a.length∧n=a.length - i.toNat) ?_ ?_
 · exact ⟨rfl,a.length - 0,0,rfl,by omega,by omega,rfl⟩
 rintro n q ⟨i,rfl,h1,h2,h3⟩
 repeat' first
  | (refine And.intro ?_ ?_)
  | (intro h;cases h)
  | (intro h;rw [h])
  | (intro h)
 all_goals first
  | (show ac _=true;kernel_rfl)|(show aj _ _=true;kernel_rfl)|exact True.intro|exact rfl|exact Or.inr rfl|exact Or.inl rfl
  | exact ⟨_,trivial,rfl,trivial⟩
  | exact ⟨_,rfl⟩
  | exact ⟨_,_,rfl⟩
  | exact ⟨_,_,_,rfl⟩
  | omega
  | exact jaT ‹_›
  | (have hi:i < (a.length:Int):=jaT ‹decide (i < (a.length:Int))=true›
     exact ⟨a.length - (i+1).toNat,by omega,i+1,congrArg (fun z:Int=>((([argS 9 a,.val false [.s s],.val false [.i .i64 z]],[])):Snap)) (aA h1 hi la),by omega,by omega,rfl⟩)
noncomputable def g248:List SV→Bool:=any248.choose
noncomputable def wz:FSpec:={ pre:=fun args=>∃ (a:List (List D)) (s:ByteArray),args=[argS 9 a,.val false [.s s]],res:=fun args=>.val false [.b (g248 args)] }
theorem ok248:FOk Tryz.prog T 248 wz:=any248.choose_spec.1
theorem any271:∃ h:List SV→List (List D),FOk Tryz.prog T 271 { pre:=fun args=>args=[],res:=fun args=>argS 9 (h args) }∧∀ args,args=[]→(∀ a ∈ args,WfSV T a)→True:=by
 refine fokA (fun _ x=>argS 9 x) (post:=fun _ _=>True) (env:=envL []) (N:=2) tabT ae mixed Tryz.func271 rfl Tryz.call271 Tryz.ntmps271 ?_
 rintro args rfl hwf
 refine ⟨by simp,?_⟩
 rw [Tryz.results271]
 repeat' first
  | (refine And.intro ?_ ?_)
  | (intro h;cases h)
  | (intro h;rw [h])
  | (intro h)
 all_goals first
  | (show ac _=true;kernel_rfl)|(show aj _ _=true;kernel_rfl)|exact True.intro|exact rfl|exact Or.inr rfl|exact Or.inl rfl
  | omega
  | decide
  | exact ⟨_,trivial,rfl,trivial⟩
noncomputable def g271:List SV→List (List D):=any271.choose
noncomputable def yQ:FSpec:={ pre:=fun args=>args=[],res:=fun args=>argS 9 (g271 args) }
theorem ok271:FOk Tryz.prog T 271 yQ:=any271.choose_spec.1
theorem any247:∃ g:List SV→Bool,FOk Tryz.prog T 247 { pre:=fun args=>∃ s:ByteArray,args=[.val false [.s s]],res:=fun args=>.val false [.b (g args)] }∧∀ args,(fun args=>∃ s:ByteArray,args=[.val false [.s s]]) args→(∀ a ∈ args,WfSV T a)→(fun _ _=>True) args (g args):=by
 refine fokA (fun _ x=>.val false [.b x]) (post:=fun _ _=>True) (env:=envL [(271,yQ),(248,wz)]) (N:=6) tabT (aa ok271 (aa ok248 ae)) mixed Tryz.func247 rfl Tryz.call247 Tryz.ntmps247 ?_
 rintro args ⟨s,rfl⟩ hwf
 have la:s.size≤maxLen:=arg0 hwf (jbb _)
 refine ⟨by simp,?_⟩
 rw [Tryz.results247]
 repeat' first
  | (refine And.intro ?_ ?_)
  | (intro h;cases h)
  | (intro h;rw [h])
  | (intro h)
 all_goals first
  | (show ac _=true;kernel_rfl)|(show aj _ _=true;kernel_rfl)|exact True.intro|exact rfl|exact Or.inr rfl|exact Or.inl rfl
  | rfl
  | exact ⟨_,trivial,rfl,trivial⟩
  | exact ⟨_,rfl⟩
  | exact ⟨_,_,rfl⟩
  | exact ⟨_,_,_,rfl⟩
noncomputable def g247:List SV→Bool:=any247.choose
noncomputable def yR:FSpec:={ pre:=fun args=>∃ s:ByteArray,args=[.val false [.s s]],res:=fun args=>.val false [.b (g247 args)] }
theorem ok247:FOk Tryz.prog T 247 yR:=any247.choose_spec.1
theorem any211:∃ g:List SV→Bool,FOk Tryz.prog T 211 { pre:=fun args=>∃ s:ByteArray,args=[.val false [.s s]],res:=fun args=>.val false [.b (g args)] }∧∀ args,(fun args=>∃ s:ByteArray,args=[.val false [.s s]]) args→(∀ a ∈ args,WfSV T a)→(fun _ _=>True) args (g args):=by
 refine fokA (fun _ x=>.val false [.b x]) (post:=fun _ _=>True) (env:=envL [(246,yS),(247,yR)]) (N:=15) tabT (aa ok246 (aa ok247 ae)) mixed Tryz.func211 rfl Tryz.call211 Tryz.ntmps211 ?_
 rintro args ⟨s,rfl⟩ hwf
 have la:s.size≤maxLen:=arg0 hwf (jbb _)
 refine ⟨by simp,?_⟩
 rw [Tryz.results211]
 repeat' first
  | (refine And.intro ?_ ?_)
  | (intro h;cases h)
  | (intro h;rw [h])
  | (intro h)
 all_goals first
  | (show ac _=true;kernel_rfl)|(show aj _ _=true;kernel_rfl)|exact True.intro|exact rfl|exact Or.inr rfl|exact Or.inl rfl
  | exact ⟨_,trivial,rfl,trivial⟩
  | exact ⟨_,rfl⟩
  | exact ⟨_,_,rfl⟩
  | exact ⟨_,_,_,rfl⟩
noncomputable def g211:List SV→Bool:=any211.choose
noncomputable def yV:FSpec:={ pre:=fun args=>∃ s:ByteArray,args=[.val false [.s s]],res:=fun args=>.val false [.b (g211 args)] }
theorem ok211:FOk Tryz.prog T 211 yV:=any211.choose_spec.1
theorem any212:∃ g:List SV→Bool,FOk Tryz.prog T 212 { pre:=fun args=>∃ a:List (List D),args=[argS 9 a],res:=fun args=>.val false [.b (g args)] }∧∀ args,(fun args=>∃ a:List (List D),args=[argS 9 a]) args→(∀ a ∈ args,WfSV T a)→(fun _ _=>True) args (g args):=by
 refine fokA (fun _ x=>.val false [.b x]) (post:=fun _ _=>True) (env:=envL [(248,wz)]) (N:=18) tabT (aa ok248 ae) mixed Tryz.func212 rfl Tryz.call212 Tryz.ntmps212 ?_
 rintro args ⟨a,rfl⟩ hwf
 have wa:WfD T (.l 9) (.l a):=arg0 hwf (jbb _)
 have la:=wa.len
 refine ⟨by simp,?_⟩
 rw [Tryz.results212]
 repeat' first
  | (refine And.intro ?_ ?_)
  | (intro h;cases h)
  | (intro h;rw [h])
  | (intro h)
 all_goals first
  | (show ac _=true;kernel_rfl)|(show aj _ _=true;kernel_rfl)|exact True.intro|exact rfl|exact Or.inr rfl|exact Or.inl rfl
  | exact ⟨_,trivial,rfl,trivial⟩
  | exact ⟨_,rfl⟩
  | exact ⟨_,_,rfl⟩
  | exact ⟨_,_,_,rfl⟩
  | skip
 refine ar (Q:=_) [0,3] [] (fun n q=>∃ i:Int,q=([argS 9 a,.val false [.i .i64 i]],[])∧0≤i∧i≤a.length∧n=a.length - i.toNat) ?_ ?_
 · exact ⟨rfl,a.length - 0,0,rfl,by omega,by omega,rfl⟩
 rintro n q ⟨i,rfl,h1,h2,h3⟩
 repeat' first
  | (refine And.intro ?_ ?_)
  | (intro h;cases h)
  | (intro h;rw [h])
  | (intro h)
 all_goals first
  | (show ac _=true;kernel_rfl)|(show aj _ _=true;kernel_rfl)|exact True.intro|exact rfl|exact Or.inr rfl|exact Or.inl rfl
  | exact ⟨_,trivial,rfl,trivial⟩
  | exact ⟨_,rfl⟩
  | exact ⟨_,_,rfl⟩
  | exact ⟨_,_,_,rfl⟩
  | omega
  | exact jaT ‹_›
  | (have hi:i < (a.length:Int):=jaT ‹decide (i < (a.length:Int))=true›
     exact ⟨a.length - (i+1).toNat,by omega,i+1,congrArg (fun z:Int=>((([argS 9 a,.val false [.i .i64 z]],[])):Snap)) (aA h1 hi la),by omega,by omega,rfl⟩)
noncomputable def g212:List SV→Bool:=any212.choose
noncomputable def yU:FSpec:={ pre:=fun args=>∃ a:List (List D),args=[argS 9 a],res:=fun args=>.val false [.b (g212 args)] }
theorem ok212:FOk Tryz.prog T 212 yU:=any212.choose_spec.1
theorem any184:∃ g:List SV→Bool,FOk Tryz.prog T 184 { pre:=fun args=>∃ a:List (List D),args=[argS 9 a],res:=fun args=>.val false [.b (g args)] }∧∀ args,(fun args=>∃ a:List (List D),args=[argS 9 a]) args→(∀ a ∈ args,WfSV T a)→(fun _ _=>True) args (g args):=by
 refine fokA (fun _ x=>.val false [.b x]) (post:=fun _ _=>True) (env:=envL [(211,yV),(49,spIn),(212,yU)]) (N:=23) tabT (aa ok211 (aa ok49 (aa ok212 ae))) mixed Tryz.func184 rfl Tryz.call184 Tryz.ntmps184 ?_
 rintro args ⟨a,rfl⟩ hwf
 have wa:WfD T (.l 9) (.l a):=arg0 hwf (jbb _)
 have la:=wa.len
 refine ⟨by simp,?_⟩
 rw [Tryz.results184]
 repeat' first
  | (refine And.intro ?_ ?_)
  | (intro h;cases h)
  | (intro h;rw [h])
  | (intro h)
 all_goals first
  | (show ac _=true;kernel_rfl)|(show aj _ _=true;kernel_rfl)|exact True.intro|exact rfl|exact Or.inr rfl|exact Or.inl rfl
  | exact ⟨_,trivial,rfl,trivial⟩
  | exact ⟨_,rfl⟩
  | exact ⟨_,_,rfl⟩
  | exact ⟨_,_,_,rfl⟩
  | skip
 refine ar (Q:=_) [0,3] [] (fun n q=>∃ i:Int,q=([argS 9 a,.val false [.i .i64 i]],[])∧0≤i∧i≤a.length∧n=a.length - i.toNat) ?_ ?_
 · exact ⟨rfl,a.length - 0,0,rfl,by omega,by omega,rfl⟩
 rintro n q ⟨i,rfl,h1,h2,h3⟩
 repeat' first
  | (refine And.intro ?_ ?_)
  | (intro h;cases h)
  | (intro h;rw [h])
  | (intro h)
 all_goals first
  | (show ac _=true;kernel_rfl)|(show aj _ _=true;kernel_rfl)|exact True.intro|exact rfl|exact Or.inr rfl|exact Or.inl rfl
  | exact ⟨_,trivial,rfl,trivial⟩
  | exact ⟨_,rfl⟩
  | exact ⟨_,_,rfl⟩
  | exact ⟨_,_,_,rfl⟩
  | omega
  | exact jaT ‹_›
  | (have hi:i < (a.length:Int):=jaT ‹decide (i < (a.length:Int))=true›
     exact ⟨a.length - (i+1).toNat,by omega,i+1,congrArg (fun z:Int=>((([argS 9 a,.val false [.i .i64 z]],[])):Snap)) (aA h1 hi la),by omega,by omega,rfl⟩)
noncomputable def g184:List SV→Bool:=any184.choose
noncomputable def yX:FSpec:={ pre:=fun args=>∃ a:List (List D),args=[argS 9 a],res:=fun args=>.val false [.b (g184 args)] }
theorem ok184:FOk Tryz.prog T 184 yX:=any184.choose_spec.1
theorem any213:∃ g:List SV→Bool,FOk Tryz.prog T 213 { pre:=fun args=>∃ a b:List D,WfRow T [.i .i64,.i .i64] a∧WfRow T [.i .i64,.i .i64] b∧args=[argG [.i .i64,.i .i64] a,argG [.i .i64,.i .i64] b],res:=fun args=>.val false [.b (g args)] }∧∀ args,(fun args=>∃ a b:List D,WfRow T [.i .i64,.i .i64] a∧WfRow T [.i .i64,.i .i64] b∧args=[argG [.i .i64,.i .i64] a,argG [.i .i64,.i .i64] b]) args→(∀ a ∈ args,WfSV T a)→(fun _ _=>True) args (g args):=by
 refine fokA (fun _ x=>.val false [.b x]) (post:=fun _ _=>True) (env:=envL []) (N:=24) tabT ae mixed Tryz.func213 rfl Tryz.call213 Tryz.ntmps213 ?_
 rintro args ⟨a,b,wa,wb,rfl⟩ hwf
 refine ⟨by simp,?_⟩
 rw [Tryz.results213]
 repeat' first
  | (refine And.intro ?_ ?_)
  | (intro h;cases h)
  | (intro h;rw [h])
  | (intro h)
 all_goals first
  | (show ac _=true;kernel_rfl)|(show aj _ _=true;kernel_rfl)|exact True.intro|exact rfl|exact Or.inr rfl|exact Or.inl rfl
  | exact ⟨_,trivial,rfl,trivial⟩
  | exact ⟨_,rfl⟩
  | exact ⟨_,_,rfl⟩
  | exact ⟨_,_,_,rfl⟩
  | exact ⟨_,_,wa,wb,rfl⟩
noncomputable def g213:List SV→Bool:=any213.choose
noncomputable def yT:FSpec:={ pre:=fun args=>∃ a b:List D,WfRow T [.i .i64,.i .i64] a∧WfRow T [.i .i64,.i .i64] b∧args=[argG [.i .i64,.i .i64] a,argG [.i .i64,.i .i64] b],res:=fun args=>.val false [.b (g213 args)] }
theorem ok213:FOk Tryz.prog T 213 yT:=any213.choose_spec.1
theorem any185:∃ g:List SV→Bool,FOk Tryz.prog T 185 { pre:=fun args=>∃ a:List (List D),args=[argS 167 a],res:=fun args=>.val false [.b (g args)] }∧∀ args,(fun args=>∃ a:List (List D),args=[argS 167 a]) args→(∀ a ∈ args,WfSV T a)→(fun _ _=>True) args (g args):=by
 refine fokA (fun _ x=>.val false [.b x]) (post:=fun _ _=>True) (env:=envL [(213,yT)]) (N:=41) tabT (aa ok213 ae) mixed Tryz.func185 rfl Tryz.call185 Tryz.ntmps185 ?_
 rintro args ⟨a,rfl⟩ hwf
 have wa:WfD T (.l 167) (.l a):=arg0 hwf (jbb _)
 have la:=wa.len
 refine ⟨by simp,?_⟩
 rw [Tryz.results185]
 repeat' first
  | (refine And.intro ?_ ?_)
  | (intro h;cases h)
  | (intro h;rw [h])
  | (intro h)
 all_goals first
  | (show ac _=true;kernel_rfl)|(show aj _ _=true;kernel_rfl)|exact True.intro|exact rfl|exact Or.inr rfl|exact Or.inl rfl
  | exact ⟨_,trivial,rfl,trivial⟩
  | exact ⟨_,rfl⟩
  | exact ⟨_,_,rfl⟩
  | exact ⟨_,_,_,rfl⟩
  | skip
 refine ar (Q:=_) [0,3] [] (fun n q=>∃ i:Int,q=([argS 167 a,.val false [.i .i64 i]],[])∧0≤i∧i≤a.length∧n=a.length - i.toNat) ?_ ?_
 · exact ⟨rfl,a.length - 0,0,rfl,by omega,by omega,rfl⟩
 rintro n q ⟨i,rfl,h1,h2,h3⟩
 repeat' first
  | (refine And.intro ?_ ?_)
  | (intro h;cases h)
  | (intro h;rw [h])
  | (intro h)
 all_goals first
  | (show ac _=true;kernel_rfl)|(show aj _ _=true;kernel_rfl)|exact True.intro|exact rfl|exact Or.inr rfl|exact Or.inl rfl
  | exact ⟨_,trivial,rfl,trivial⟩
  | exact ⟨_,rfl⟩
  | exact ⟨_,_,rfl⟩
  | exact ⟨_,_,_,rfl⟩
  | omega
  | exact jaT ‹_›
  | (have hi:i < (a.length:Int):=jaT ‹decide (i < (a.length:Int))=true›
     exact ⟨a.length - (i+1).toNat,by omega,i+1,congrArg (fun z:Int=>((([argS 167 a,.val false [.i .i64 z]],[])):Snap)) (aA h1 hi la),by omega,by omega,rfl⟩)
  | (have hi:i < (a.length:Int):=jaT ‹decide (i < (a.length:Int))=true›
     have h0:i > 0:=jaT ‹decide (i > 0)=true›
     have hw:IntKind.i64.wrap (i - 1)=i - 1:=by rw [IntKind.wrap_i64];simp only [maxLen] at la;omega
     have wr:WfRow T [.i .i64,.i .i64] (a.getD i.toNat []):=wa.row rfl (by omega)
     have wq:WfRow T [.i .i64,.i .i64] (a.getD (IntKind.i64.wrap (i - 1)).toNat []):=wa.row rfl (by rw [hw];omega)
     first
      | (rw [hw];omega)
      | exact ⟨_,_,wq,wr,rfl⟩)
noncomputable def g185:List SV→Bool:=any185.choose
noncomputable def yW:FSpec:={ pre:=fun args=>∃ a:List (List D),args=[argS 167 a],res:=fun args=>.val false [.b (g185 args)] }
theorem ok185:FOk Tryz.prog T 185 yW:=any185.choose_spec.1
end Go.Proofs.YtkpnfbdoaljkpaaGreatDoor.Ab
