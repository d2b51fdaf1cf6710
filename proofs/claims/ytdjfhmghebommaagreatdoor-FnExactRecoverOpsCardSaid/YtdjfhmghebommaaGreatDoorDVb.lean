/- A part. -/
import Derived.Test.YtdjfhmghebommaaGreatDoorDQa
namespace Go.Proofs.YtdjfhmghebommaaGreatDoor.Ab
open Go.RowKit
set_option linter.all false
set_option maxRecDepth 100000
set_option maxHeartbeats 1000000
theorem ok35:FOk Tryz.prog T 35 spIn:=by
 refine fok (env:=envL []) (N:=15) tabT af mixed Tryz.func35 rfl Tryz.call35 Tryz.ntmps35 ?_
 rintro args ⟨x,lo,hi,rfl⟩ hwf
 refine ⟨by simp,?_⟩
 rw [Tryz.results35]
 repeat' first
  | refine And.intro ?_ ?_
  | (intro h;cases h)
  | (intro h;rw [h])
  | intro h
 all_goals first
  | (show aa _=true;kernel_rfl)|(show am _ _=true;kernel_rfl)|exact True.intro|exact rfl|exact Or.inr rfl|exact Or.inl rfl
  | exact ⟨_,rfl⟩
  | exact ⟨_,_,_,rfl⟩
  | (refine resB ?_;simp_all [inR];done)
  | (refine resB ?_;simp_all [inR];omega)
theorem ok88:FOk Tryz.prog T 88 jb:=by
 refine fok (env:=envL [(35,spIn)]) (N:=5) tabT (ac ok35 af) mixed Tryz.func88 rfl Tryz.call88 Tryz.ntmps88 ?_
 rintro args ⟨x,rfl⟩ hwf
 refine ⟨by simp,?_⟩
 rw [Tryz.results88]
 repeat' first
  | refine And.intro ?_ ?_
  | (intro h;cases h)
  | (intro h;rw [h])
  | intro h
 all_goals first
  | (show aa _=true;kernel_rfl)|(show am _ _=true;kernel_rfl)|exact True.intro|exact rfl|exact Or.inr rfl|exact Or.inl rfl
  | exact ⟨_,rfl⟩
  | exact ⟨_,_,_,rfl⟩
  | rfl
theorem ok103:FOk Tryz.prog T 103 spIn:=by
 refine fok (env:=envL []) (N:=15) tabT af mixed Tryz.func103 rfl Tryz.call103 Tryz.ntmps103 ?_
 rintro args ⟨x,lo,hi,rfl⟩ hwf
 refine ⟨by simp,?_⟩
 rw [Tryz.results103]
 repeat' first
  | refine And.intro ?_ ?_
  | (intro h;cases h)
  | (intro h;rw [h])
  | intro h
 all_goals first
  | (show aa _=true;kernel_rfl)|(show am _ _=true;kernel_rfl)|exact True.intro|exact rfl|exact Or.inr rfl|exact Or.inl rfl
  | exact ⟨_,rfl⟩
  | exact ⟨_,_,_,rfl⟩
  | (refine resB ?_;simp_all [inR];done)
  | (refine resB ?_;simp_all [inR];omega)
theorem ok104:FOk Tryz.prog T 104 jb:=by
 refine fok (env:=envL [(103,spIn)]) (N:=5) tabT (ac ok103 af) mixed Tryz.func104 rfl Tryz.call104 Tryz.ntmps104 ?_
 rintro args ⟨x,rfl⟩ hwf
 refine ⟨by simp,?_⟩
 rw [Tryz.results104]
 repeat' first
  | refine And.intro ?_ ?_
  | (intro h;cases h)
  | (intro h;rw [h])
  | intro h
 all_goals first
  | (show aa _=true;kernel_rfl)|(show am _ _=true;kernel_rfl)|exact True.intro|exact rfl|exact Or.inr rfl|exact Or.inl rfl
  | exact ⟨_,rfl⟩
  | exact ⟨_,_,_,rfl⟩
  | rfl
theorem any150:∃ g:List SV→Bool,FOk Tryz.prog T 150 { pre:=fun args=>∃ a:List D,WfRow T cV a∧args=[argG cV a],res:=fun args=>.val false [.b (g args)] }∧∀ args,(fun args=>∃ a:List D,WfRow T cV a∧args=[argG cV a]) args→(∀ a ∈ args,WfSV T a)→(fun _ _=>True) args (g args):=by
 refine fokA (fun _ x=>.val false [.b x]) (post:=fun _ _=>True) (env:=envL []) (N:=16) tabT af mixed Tryz.func150 rfl Tryz.call150 Tryz.ntmps150 ?_
 rintro args ⟨a,wa,rfl⟩ hwf
 refine ⟨by simp,?_⟩
 rw [Tryz.results150]
 repeat' first
  | refine And.intro ?_ ?_
  | (intro h;cases h)
  | (intro h;rw [h])
  | intro h
 all_goals first
  | (show aa _=true;kernel_rfl)|(show am _ _=true;kernel_rfl)|exact True.intro|exact rfl|exact Or.inr rfl|exact Or.inl rfl
  | exact ⟨_,trivial,rfl,trivial⟩
  | exact ⟨_,rfl⟩
  | exact ⟨_,_,rfl⟩
  | exact ⟨_,_,_,rfl⟩
  | exact ⟨_,wa,rfl⟩
noncomputable def g150:List SV→Bool:=any150.choose
noncomputable def zZ:FSpec:={ pre:=fun args=>∃ a:List D,WfRow T cV a∧args=[argG cV a],res:=fun args=>.val false [.b (g150 args)] }
theorem ok150:FOk Tryz.prog T 150 zZ:=any150.choose_spec.1
theorem any114:∃ g:List SV→Int,FOk Tryz.prog T 114 { pre:=fun args=>∃ x y:Int,args=[.val false [.i .i64 x],.val false [.i .i64 y]],res:=fun args=>.val false [.i .i64 (g args)] }∧∀ args,(fun args=>∃ x y:Int,args=[.val false [.i .i64 x],.val false [.i .i64 y]]) args→(∀ a ∈ args,WfSV T a)→(fun _ _=>True) args (g args):=by
 refine fokA (fun _ x=>.val false [.i .i64 x]) (post:=fun _ _=>True) (env:=envL []) (N:=10) tabT af mixed Tryz.func114 rfl Tryz.call114 Tryz.ntmps114 ?_
 rintro args ⟨x,y,rfl⟩ hwf
 refine ⟨by simp,?_⟩
 rw [Tryz.results114]
 repeat' first
  | refine And.intro ?_ ?_
  | (intro h;cases h)
  | (intro h;rw [h])
  | intro h
 all_goals first
  | (show aa _=true;kernel_rfl)|(show am _ _=true;kernel_rfl)|exact True.intro|exact rfl|exact Or.inr rfl|exact Or.inl rfl
  | exact ⟨_,trivial,rfl,trivial⟩
  | exact ⟨_,rfl⟩
  | exact ⟨_,_,rfl⟩
  | exact ⟨_,_,_,rfl⟩
noncomputable def g114:List SV→Int:=any114.choose
noncomputable def jaa:FSpec:={ pre:=fun args=>∃ x y:Int,args=[.val false [.i .i64 x],.val false [.i .i64 y]],res:=fun args=>.val false [.i .i64 (g114 args)] }
theorem ok114:FOk Tryz.prog T 114 jaa:=any114.choose_spec.1
theorem any117:∃ g:List SV→Bool,FOk Tryz.prog T 117 { pre:=fun args=>∃ s:ByteArray,args=[.val false [.s s]],res:=fun args=>.val false [.b (g args)] }∧∀ args,(fun args=>∃ s:ByteArray,args=[.val false [.s s]]) args→(∀ a ∈ args,WfSV T a)→(fun _ _=>True) args (g args):=by
 refine fokA (fun _ x=>.val false [.b x]) (post:=fun _ _=>True) (env:=envL []) (N:=29) tabT af mixed Tryz.func117 rfl Tryz.call117 Tryz.ntmps117 ?_
 rintro args ⟨s,rfl⟩ hwf
 have la:s.size≤maxLen:=arg0 hwf (jb6 _)
 refine ⟨by simp,?_⟩
 rw [Tryz.results117]
 repeat' first
  | refine And.intro ?_ ?_
  | (intro h;cases h)
  | (intro h;rw [h])
  | intro h
 all_goals first
  | (show aa _=true;kernel_rfl)|(show am _ _=true;kernel_rfl)|exact True.intro|exact rfl|exact Or.inr rfl|exact Or.inl rfl
  | exact ⟨_,trivial,rfl,trivial⟩
  | exact ⟨_,rfl⟩
  | exact ⟨_,_,rfl⟩
  | exact ⟨_,_,_,rfl⟩
  | skip
 refine ap (Q:=_) [0,3] [] (fun n q=>∃ i:Int,q=([.val false [.s s],.val false [.i .i64 i]],[])∧0≤i∧i≤s.size∧n=s.size - i.toNat) ?_ ?_
 · exact ⟨rfl,s.size - 0,0,rfl,by omega,by omega,rfl⟩
 rintro n q ⟨i,rfl,h1,h2,h3⟩
 repeat' first
  | refine And.intro ?_ ?_
  | (intro h;cases h)
  | (intro h;rw [h])
  | intro h
 all_goals first
  | (show aa _=true;kernel_rfl)|(show am _ _=true;kernel_rfl)|exact True.intro|exact rfl|exact Or.inr rfl|exact Or.inl rfl
  | exact ⟨_,trivial,rfl,trivial⟩
  | exact ⟨_,rfl⟩
  | exact ⟨_,_,rfl⟩
  | exact ⟨_,_,_,rfl⟩
  | omega
  | exact jbO ‹_›
  | (have hi:i < (s.size:Int):=jbO ‹decide (i < (s.size:Int))=true›
     exact ⟨s.size - (i+1).toNat,by omega,i+1,congrArg (fun z:Int=>((([.val false [.s s],.val false [.i .i64 z]],[])):Snap)) (aC h1 hi la),by omega,by omega,rfl⟩)
noncomputable def g117:List SV→Bool:=any117.choose
noncomputable def z8:FSpec:={ pre:=fun args=>∃ s:ByteArray,args=[.val false [.s s]],res:=fun args=>.val false [.b (g117 args)] }
theorem ok117:FOk Tryz.prog T 117 z8:=any117.choose_spec.1
theorem any189:∃ g:List SV→Bool,FOk Tryz.prog T 189 { pre:=fun args=>∃ s:ByteArray,args=[.val false [.s s]],res:=fun args=>.val false [.b (g args)] }∧∀ args,(fun args=>∃ s:ByteArray,args=[.val false [.s s]]) args→(∀ a ∈ args,WfSV T a)→(fun _ _=>True) args (g args):=by
 refine fokA (fun _ x=>.val false [.b x]) (post:=fun _ _=>True) (env:=envL []) (N:=45) tabT af mixed Tryz.func189 rfl Tryz.call189 Tryz.ntmps189 ?_
 rintro args ⟨s,rfl⟩ hwf
 have la:s.size≤maxLen:=arg0 hwf (jb6 _)
 refine ⟨by simp,?_⟩
 rw [Tryz.results189]
 repeat' first
  | refine And.intro ?_ ?_
  | (intro h;cases h)
  | (intro h;rw [h])
  | intro h
 all_goals first
  | (show aa _=true;kernel_rfl)|(show am _ _=true;kernel_rfl)|exact True.intro|exact rfl|exact Or.inr rfl|exact Or.inl rfl
  | exact ⟨_,trivial,rfl,trivial⟩
  | exact ⟨_,rfl⟩
  | exact ⟨_,_,rfl⟩
  | exact ⟨_,_,_,rfl⟩
  | skip
 refine ap (Q:=_) [0,3] [] (fun n q=>∃ i:Int,q=([.val false [.s s],.val false [.i .i64 i]],[])∧0≤i∧i≤s.size∧n=s.size - i.toNat) ?_ ?_
 · exact ⟨rfl,s.size - 0,0,rfl,by omega,by omega,rfl⟩
 rintro n q ⟨i,rfl,h1,h2,h3⟩
 repeat' first
  | refine And.intro ?_ ?_
  | (intro h;cases h)
  | (intro h;rw [h])
  | intro h
 all_goals first
  | (show aa _=true;kernel_rfl)|(show am _ _=true;kernel_rfl)|exact True.intro|exact rfl|exact Or.inr rfl|exact Or.inl rfl
  | exact ⟨_,trivial,rfl,trivial⟩
  | exact ⟨_,rfl⟩
  | exact ⟨_,_,rfl⟩
  | exact ⟨_,_,_,rfl⟩
  | omega
  | exact jbO ‹_›
  | (have hi:i < (s.size:Int):=jbO ‹decide (i < (s.size:Int))=true›
     exact ⟨s.size - (i+1).toNat,by omega,i+1,congrArg (fun z:Int=>((([.val false [.s s],.val false [.i .i64 z]],[])):Snap)) (aC h1 hi la),by omega,by omega,rfl⟩)
noncomputable def g189:List SV→Bool:=any189.choose
noncomputable def zS:FSpec:={ pre:=fun args=>∃ s:ByteArray,args=[.val false [.s s]],res:=fun args=>.val false [.b (g189 args)] }
theorem ok189:FOk Tryz.prog T 189 zS:=any189.choose_spec.1
theorem any191:∃ g:List SV→Bool,FOk Tryz.prog T 191 { pre:=fun args=>∃ (a:List (List D)) (s:ByteArray),args=[argS 9 a,.val false [.s s]],res:=fun args=>.val false [.b (g args)] }∧∀ args,(fun args=>∃ (a:List (List D)) (s:ByteArray),args=[argS 9 a,.val false [.s s]]) args→(∀ a ∈ args,WfSV T a)→(fun _ _=>True) args (g args):=by
 refine fokA (fun _ x=>.val false [.b x]) (post:=fun _ _=>True) (env:=envL []) (N:=18) tabT af mixed Tryz.func191 rfl Tryz.call191 Tryz.ntmps191 ?_
 rintro args ⟨a,s,rfl⟩ hwf
 have wa:WfD T (.l 9) (.l a):=arg0 hwf (jb6 _)
 have la:=wa.len
 refine ⟨by simp,?_⟩
 rw [Tryz.results191]
 repeat' first
  | refine And.intro ?_ ?_
  | (intro h;cases h)
  | (intro h;rw [h])
  | intro h
 all_goals first
  | (show aa _=true;kernel_rfl)|(show am _ _=true;kernel_rfl)|exact True.intro|exact rfl|exact Or.inr rfl|exact Or.inl rfl
  | exact ⟨_,trivial,rfl,trivial⟩
  | exact ⟨_,rfl⟩
  | exact ⟨_,_,rfl⟩
  | exact ⟨_,_,_,rfl⟩
  | skip
 refine ap (Q:=_) [0,1,5] [] (fun n q=>∃ i:Int,q=([argS 9 a,.val false [.s s],.val false [.i .i64 i]],[])∧0≤i∧i≤a.length∧n=a.length - i.toNat) ?_ ?_
 · exact ⟨rfl,a.length - 0,0,rfl,by omega,by omega,rfl⟩
 rintro n q ⟨i,rfl,h1,h2,h3⟩
 repeat' first
  | refine And.intro ?_ ?_
  | (intro h;cases h)
  | (intro h;rw [h])
  | intro h
 all_goals first
  | (show aa _=true;kernel_rfl)|(show am _ _=true;kernel_rfl)|exact True.intro|exact rfl|exact Or.inr rfl|exact Or.inl rfl
  | exact ⟨_,trivial,rfl,trivial⟩
  | exact ⟨_,rfl⟩
  | exact ⟨_,_,rfl⟩
  | exact ⟨_,_,_,rfl⟩
  | omega
  | exact jbO ‹_›
  | (have hi:i < (a.length:Int):=jbO ‹decide (i < (a.length:Int))=true›
     exact ⟨a.length - (i+1).toNat,by omega,i+1,congrArg (fun z:Int=>((([argS 9 a,.val false [.s s],.val false [.i .i64 z]],[])):Snap)) (aC h1 hi la),by omega,by omega,rfl⟩)
noncomputable def g191:List SV→Bool:=any191.choose
noncomputable def xN:FSpec:={ pre:=fun args=>∃ (a:List (List D)) (s:ByteArray),args=[argS 9 a,.val false [.s s]],res:=fun args=>.val false [.b (g191 args)] }
theorem ok191:FOk Tryz.prog T 191 xN:=any191.choose_spec.1
theorem any201:∃ h:List SV→List (List D),FOk Tryz.prog T 201 { pre:=fun args=>args=[],res:=fun args=>argS 9 (h args) }∧∀ args,args=[]→(∀ a ∈ args,WfSV T a)→True:=by
 refine fokA (fun _ x=>argS 9 x) (post:=fun _ _=>True) (env:=envL []) (N:=2) tabT af mixed Tryz.func201 rfl Tryz.call201 Tryz.ntmps201 ?_
 rintro args rfl hwf
 refine ⟨by simp,?_⟩
 rw [Tryz.results201]
 repeat' first
  | refine And.intro ?_ ?_
  | (intro h;cases h)
  | (intro h;rw [h])
  | intro h
 all_goals first
  | (show aa _=true;kernel_rfl)|(show am _ _=true;kernel_rfl)|exact True.intro|exact rfl|exact Or.inr rfl|exact Or.inl rfl
  | omega
  | decide
  | exact ⟨_,trivial,rfl,trivial⟩
noncomputable def g201:List SV→List (List D):=any201.choose
noncomputable def zQ:FSpec:={ pre:=fun args=>args=[],res:=fun args=>argS 9 (g201 args) }
theorem ok201:FOk Tryz.prog T 201 zQ:=any201.choose_spec.1
theorem any190:∃ g:List SV→Bool,FOk Tryz.prog T 190 { pre:=fun args=>∃ s:ByteArray,args=[.val false [.s s]],res:=fun args=>.val false [.b (g args)] }∧∀ args,(fun args=>∃ s:ByteArray,args=[.val false [.s s]]) args→(∀ a ∈ args,WfSV T a)→(fun _ _=>True) args (g args):=by
 refine fokA (fun _ x=>.val false [.b x]) (post:=fun _ _=>True) (env:=envL [(201,zQ),(191,xN)]) (N:=6) tabT (ac ok201 (ac ok191 af)) mixed Tryz.func190 rfl Tryz.call190 Tryz.ntmps190 ?_
 rintro args ⟨s,rfl⟩ hwf
 have la:s.size≤maxLen:=arg0 hwf (jb6 _)
 refine ⟨by simp,?_⟩
 rw [Tryz.results190]
 repeat' first
  | refine And.intro ?_ ?_
  | (intro h;cases h)
  | (intro h;rw [h])
  | intro h
 all_goals first
  | (show aa _=true;kernel_rfl)|(show am _ _=true;kernel_rfl)|exact True.intro|exact rfl|exact Or.inr rfl|exact Or.inl rfl
  | rfl
  | exact ⟨_,trivial,rfl,trivial⟩
  | exact ⟨_,rfl⟩
  | exact ⟨_,_,rfl⟩
  | exact ⟨_,_,_,rfl⟩
noncomputable def g190:List SV→Bool:=any190.choose
noncomputable def zR:FSpec:={ pre:=fun args=>∃ s:ByteArray,args=[.val false [.s s]],res:=fun args=>.val false [.b (g190 args)] }
theorem ok190:FOk Tryz.prog T 190 zR:=any190.choose_spec.1
theorem any173:∃ g:List SV→Bool,FOk Tryz.prog T 173 { pre:=fun args=>∃ s:ByteArray,args=[.val false [.s s]],res:=fun args=>.val false [.b (g args)] }∧∀ args,(fun args=>∃ s:ByteArray,args=[.val false [.s s]]) args→(∀ a ∈ args,WfSV T a)→(fun _ _=>True) args (g args):=by
 refine fokA (fun _ x=>.val false [.b x]) (post:=fun _ _=>True) (env:=envL [(189,zS),(190,zR)]) (N:=15) tabT (ac ok189 (ac ok190 af)) mixed Tryz.func173 rfl Tryz.call173 Tryz.ntmps173 ?_
 rintro args ⟨s,rfl⟩ hwf
 have la:s.size≤maxLen:=arg0 hwf (jb6 _)
 refine ⟨by simp,?_⟩
 rw [Tryz.results173]
 repeat' first
  | refine And.intro ?_ ?_
  | (intro h;cases h)
  | (intro h;rw [h])
  | intro h
 all_goals first
  | (show aa _=true;kernel_rfl)|(show am _ _=true;kernel_rfl)|exact True.intro|exact rfl|exact Or.inr rfl|exact Or.inl rfl
  | exact ⟨_,trivial,rfl,trivial⟩
  | exact ⟨_,rfl⟩
  | exact ⟨_,_,rfl⟩
  | exact ⟨_,_,_,rfl⟩
noncomputable def g173:List SV→Bool:=any173.choose
noncomputable def zV:FSpec:={ pre:=fun args=>∃ s:ByteArray,args=[.val false [.s s]],res:=fun args=>.val false [.b (g173 args)] }
theorem ok173:FOk Tryz.prog T 173 zV:=any173.choose_spec.1
theorem any174:∃ g:List SV→Bool,FOk Tryz.prog T 174 { pre:=fun args=>∃ a:List (List D),args=[argS 9 a],res:=fun args=>.val false [.b (g args)] }∧∀ args,(fun args=>∃ a:List (List D),args=[argS 9 a]) args→(∀ a ∈ args,WfSV T a)→(fun _ _=>True) args (g args):=by
 refine fokA (fun _ x=>.val false [.b x]) (post:=fun _ _=>True) (env:=envL [(191,xN)]) (N:=18) tabT (ac ok191 af) mixed Tryz.func174 rfl Tryz.call174 Tryz.ntmps174 ?_
 rintro args ⟨a,rfl⟩ hwf
 have wa:WfD T (.l 9) (.l a):=arg0 hwf (jb6 _)
 have la:=wa.len
 refine ⟨by simp,?_⟩
 rw [Tryz.results174]
 repeat' first
  | refine And.intro ?_ ?_
  | (intro h;cases h)
  | (intro h;rw [h])
  | intro h
 all_goals first
  | (show aa _=true;kernel_rfl)|(show am _ _=true;kernel_rfl)|exact True.intro|exact rfl|exact Or.inr rfl|exact Or.inl rfl
  | exact ⟨_,trivial,rfl,trivial⟩
  | exact ⟨_,rfl⟩
  | exact ⟨_,_,rfl⟩
  | exact ⟨_,_,_,rfl⟩
  | skip
 refine ap (Q:=_) [0,3] [] (fun n q=>∃ i:Int,q=([argS 9 a,.val false [.i .i64 i]],[])∧0≤i∧i≤a.length∧n=a.length - i.toNat) ?_ ?_
 · exact ⟨rfl,a.length - 0,0,rfl,by omega,by omega,rfl⟩
 rintro n q ⟨i,rfl,h1,h2,h3⟩
 repeat' first
  | refine And.intro ?_ ?_
  | (intro h;cases h)
  | (intro h;rw [h])
  | intro h
 all_goals first
  | (show aa _=true;kernel_rfl)|(show am _ _=true;kernel_rfl)|exact True.intro|exact rfl|exact Or.inr rfl|exact Or.inl rfl
  | exact ⟨_,trivial,rfl,trivial⟩
  | exact ⟨_,rfl⟩
  | exact ⟨_,_,rfl⟩
  | exact ⟨_,_,_,rfl⟩
  | omega
  | exact jbO ‹_›
  | (have hi:i < (a.length:Int):=jbO ‹decide (i < (a.length:Int))=true›
     exact ⟨a.length - (i+1).toNat,by omega,i+1,congrArg (fun z:Int=>((([argS 9 a,.val false [.i .i64 z]],[])):Snap)) (aC h1 hi la),by omega,by omega,rfl⟩)
noncomputable def g174:List SV→Bool:=any174.choose
noncomputable def zU:FSpec:={ pre:=fun args=>∃ a:List (List D),args=[argS 9 a],res:=fun args=>.val false [.b (g174 args)] }
theorem ok174:FOk Tryz.prog T 174 zU:=any174.choose_spec.1
theorem any152:∃ g:List SV→Bool,FOk Tryz.prog T 152 { pre:=fun args=>∃ a:List (List D),args=[argS 9 a],res:=fun args=>.val false [.b (g args)] }∧∀ args,(fun args=>∃ a:List (List D),args=[argS 9 a]) args→(∀ a ∈ args,WfSV T a)→(fun _ _=>True) args (g args):=by
 refine fokA (fun _ x=>.val false [.b x]) (post:=fun _ _=>True) (env:=envL [(173,zV),(35,spIn),(174,zU)]) (N:=23) tabT (ac ok173 (ac ok35 (ac ok174 af))) mixed Tryz.func152 rfl Tryz.call152 Tryz.ntmps152 ?_
 rintro args ⟨a,rfl⟩ hwf
 have wa:WfD T (.l 9) (.l a):=arg0 hwf (jb6 _)
 have la:=wa.len
 refine ⟨by simp,?_⟩
 rw [Tryz.results152]
 repeat' first
  | refine And.intro ?_ ?_
  | (intro h;cases h)
  | (intro h;rw [h])
  | intro h
 all_goals first
  | (show aa _=true;kernel_rfl)|(show am _ _=true;kernel_rfl)|exact True.intro|exact rfl|exact Or.inr rfl|exact Or.inl rfl
  | exact ⟨_,trivial,rfl,trivial⟩
  | exact ⟨_,rfl⟩
  | exact ⟨_,_,rfl⟩
  | exact ⟨_,_,_,rfl⟩
  | skip
 refine ap (Q:=_) [0,3] [] (fun n q=>∃ i:Int,q=([argS 9 a,.val false [.i .i64 i]],[])∧0≤i∧i≤a.length∧n=a.length - i.toNat) ?_ ?_
 · exact ⟨rfl,a.length - 0,0,rfl,by omega,by omega,rfl⟩
 rintro n q ⟨i,rfl,h1,h2,h3⟩
 repeat' first
  | refine And.intro ?_ ?_
  | (intro h;cases h)
  | (intro h;rw [h])
  | intro h
 all_goals first
  | (show aa _=true;kernel_rfl)|(show am _ _=true;kernel_rfl)|exact True.intro|exact rfl|exact Or.inr rfl|exact Or.inl rfl
  | exact ⟨_,trivial,rfl,trivial⟩
  | exact ⟨_,rfl⟩
  | exact ⟨_,_,rfl⟩
  | exact ⟨_,_,_,rfl⟩
  | omega
  | exact jbO ‹_›
  | (have hi:i < (a.length:Int):=jbO ‹decide (i < (a.length:Int))=true›
     exact ⟨a.length - (i+1).toNat,by omega,i+1,congrArg (fun z:Int=>((([argS 9 a,.val false [.i .i64 z]],[])):Snap)) (aC h1 hi la),by omega,by omega,rfl⟩)
noncomputable def g152:List SV→Bool:=any152.choose
noncomputable def zX:FSpec:={ pre:=fun args=>∃ a:List (List D),args=[argS 9 a],res:=fun args=>.val false [.b (g152 args)] }
theorem ok152:FOk Tryz.prog T 152 zX:=any152.choose_spec.1
theorem any175:∃ g:List SV→Bool,FOk Tryz.prog T 175 { pre:=fun args=>∃ a b:List D,WfRow T [.i .i64,.i .i64] a∧WfRow T [.i .i64,.i .i64] b∧args=[argG [.i .i64,.i .i64] a,argG [.i .i64,.i .i64] b],res:=fun args=>.val false [.b (g args)] }∧∀ args,(fun args=>∃ a b:List D,WfRow T [.i .i64,.i .i64] a∧WfRow T [.i .i64,.i .i64] b∧args=[argG [.i .i64,.i .i64] a,argG [.i .i64,.i .i64] b]) args→(∀ a ∈ args,WfSV T a)→(fun _ _=>True) args (g args):=by
 refine fokA (fun _ x=>.val false [.b x]) (post:=fun _ _=>True) (env:=envL []) (N:=24) tabT af mixed Tryz.func175 rfl Tryz.call175 Tryz.ntmps175 ?_
 rintro args ⟨a,b,wa,wb,rfl⟩ hwf
 refine ⟨by simp,?_⟩
 rw [Tryz.results175]
 repeat' first
  | refine And.intro ?_ ?_
  | (intro h;cases h)
  | (intro h;rw [h])
  | intro h
 all_goals first
  | (show aa _=true;kernel_rfl)|(show am _ _=true;kernel_rfl)|exact True.intro|exact rfl|exact Or.inr rfl|exact Or.inl rfl
  | exact ⟨_,trivial,rfl,trivial⟩
  | exact ⟨_,rfl⟩
  | exact ⟨_,_,rfl⟩
  | exact ⟨_,_,_,rfl⟩
  | exact ⟨_,_,wa,wb,rfl⟩
noncomputable def g175:List SV→Bool:=any175.choose
noncomputable def zT:FSpec:={ pre:=fun args=>∃ a b:List D,WfRow T [.i .i64,.i .i64] a∧WfRow T [.i .i64,.i .i64] b∧args=[argG [.i .i64,.i .i64] a,argG [.i .i64,.i .i64] b],res:=fun args=>.val false [.b (g175 args)] }
theorem ok175:FOk Tryz.prog T 175 zT:=any175.choose_spec.1
theorem any153:∃ g:List SV→Bool,FOk Tryz.prog T 153 { pre:=fun args=>∃ a:List (List D),args=[argS 147 a],res:=fun args=>.val false [.b (g args)] }∧∀ args,(fun args=>∃ a:List (List D),args=[argS 147 a]) args→(∀ a ∈ args,WfSV T a)→(fun _ _=>True) args (g args):=by
 refine fokA (fun _ x=>.val false [.b x]) (post:=fun _ _=>True) (env:=envL [(175,zT)]) (N:=41) tabT (ac ok175 af) mixed Tryz.func153 rfl Tryz.call153 Tryz.ntmps153 ?_
 rintro args ⟨a,rfl⟩ hwf
 have wa:WfD T (.l 147) (.l a):=arg0 hwf (jb6 _)
 have la:=wa.len
 refine ⟨by simp,?_⟩
 rw [Tryz.results153]
 repeat' first
  | refine And.intro ?_ ?_
  | (intro h;cases h)
  | (intro h;rw [h])
  | intro h
 all_goals first
  | (show aa _=true;kernel_rfl)|(show am _ _=true;kernel_rfl)|exact True.intro|exact rfl|exact Or.inr rfl|exact Or.inl rfl
  | exact ⟨_,trivial,rfl,trivial⟩
  | exact ⟨_,rfl⟩
  | exact ⟨_,_,rfl⟩
  | exact ⟨_,_,_,rfl⟩
  | skip
 refine ap (Q:=_) [0,3] [] (fun n q=>∃ i:Int,q=([argS 147 a,.val false [.i .i64 i]],[])∧0≤i∧i≤a.length∧n=a.length - i.toNat) ?_ ?_
 · exact ⟨rfl,a.length - 0,0,rfl,by omega,by omega,rfl⟩
 rintro n q ⟨i,rfl,h1,h2,h3⟩
 repeat' first
  | refine And.intro ?_ ?_
  | (intro h;cases h)
  | (intro h;rw [h])
  | intro h
 all_goals first
  | (show aa _=true;kernel_rfl)|(show am _ _=true;kernel_rfl)|exact True.intro|exact rfl|exact Or.inr rfl|exact Or.inl rfl
  | exact ⟨_,trivial,rfl,trivial⟩
  | exact ⟨_,rfl⟩
  | exact ⟨_,_,rfl⟩
  | exact ⟨_,_,_,rfl⟩
  | omega
  | exact jbO ‹_›
  | (have hi:i < (a.length:Int):=jbO ‹decide (i < (a.length:Int))=true›
     exact ⟨a.length - (i+1).toNat,by omega,i+1,congrArg (fun z:Int=>((([argS 147 a,.val false [.i .i64 z]],[])):Snap)) (aC h1 hi la),by omega,by omega,rfl⟩)
  | (have hi:i < (a.length:Int):=jbO ‹decide (i < (a.length:Int))=true›
     have h0:i > 0:=jbO ‹decide (i > 0)=true›
     have hw:IntKind.i64.wrap (i - 1)=i - 1:=by rw [IntKind.wrap_i64];simp only [maxLen] at la;omega
     have wr:WfRow T [.i .i64,.i .i64] (a.getD i.toNat []):=wa.row rfl (by omega)
     have wq:WfRow T [.i .i64,.i .i64] (a.getD (IntKind.i64.wrap (i - 1)).toNat []):=wa.row rfl (by rw [hw];omega)
     first
      | (rw [hw];omega)
      | exact ⟨_,_,wq,wr,rfl⟩)
noncomputable def g153:List SV→Bool:=any153.choose
noncomputable def zW:FSpec:={ pre:=fun args=>∃ a:List (List D),args=[argS 147 a],res:=fun args=>.val false [.b (g153 args)] }
theorem ok153:FOk Tryz.prog T 153 zW:=any153.choose_spec.1
end Go.Proofs.YtdjfhmghebommaaGreatDoor.Ab
