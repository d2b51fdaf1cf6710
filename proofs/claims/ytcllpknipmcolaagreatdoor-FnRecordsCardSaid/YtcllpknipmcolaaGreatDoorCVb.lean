/- Functions that return some bool or number, and small exact ones: printed by a program of -/
import Derived.Test.YtcllpknipmcolaaGreatDoorCQa
namespace Go.Proofs.YtcllpknipmcolaaGreatDoor.Ab
open Go.RowKit
set_option linter.all false
set_option maxRecDepth 100000
set_option maxHeartbeats 1000000
theorem ok126:FOk Tryz.prog T 126 spIn:=by
 refine fok (env:=envL []) (N:=15) tabT ae mixed Tryz.func126 rfl Tryz.call126 Tryz.ntmps126 ?_
 rintro args ⟨x,lo,hi,rfl⟩ hwf
 refine ⟨by simp,?_⟩
 rw [Tryz.results126]
 repeat' first
  | (refine And.intro ?_ ?_)
  | (intro h;cases h)
  | (intro h;rw [h])
  | (intro h)
 all_goals first
  | exact True.intro
  | exact Or.inr rfl
  | (refine resB ?_;simp_all [inR];done)
  | (refine resB ?_;simp_all [inR];omega)
theorem ok83:FOk Tryz.prog T 83 iU:=by
 refine fok (env:=envL [(126,spIn)]) (N:=5) tabT (aa ok126 ae) mixed Tryz.func83 rfl Tryz.call83 Tryz.ntmps83 ?_
 rintro args ⟨x,rfl⟩ hwf
 refine ⟨by simp,?_⟩
 rw [Tryz.results83]
 repeat' first
  | (refine And.intro ?_ ?_)
  | (intro h;cases h)
  | (intro h;rw [h])
  | (intro h)
 all_goals first
  | exact True.intro
  | exact rfl
  | exact Or.inr rfl
  | exact ⟨_,_,_,rfl⟩
theorem ok53:FOk Tryz.prog T 53 spIn:=by
 refine fok (env:=envL []) (N:=15) tabT ae mixed Tryz.func53 rfl Tryz.call53 Tryz.ntmps53 ?_
 rintro args ⟨x,lo,hi,rfl⟩ hwf
 refine ⟨by simp,?_⟩
 rw [Tryz.results53]
 repeat' first
  | (refine And.intro ?_ ?_)
  | (intro h;cases h)
  | (intro h;rw [h])
  | (intro h)
 all_goals first
  | exact True.intro
  | exact Or.inr rfl
  | (refine resB ?_;simp_all [inR];done)
  | (refine resB ?_;simp_all [inR];omega)
theorem ok54:FOk Tryz.prog T 54 iU:=by
 refine fok (env:=envL [(53,spIn)]) (N:=5) tabT (aa ok53 ae) mixed Tryz.func54 rfl Tryz.call54 Tryz.ntmps54 ?_
 rintro args ⟨x,rfl⟩ hwf
 refine ⟨by simp,?_⟩
 rw [Tryz.results54]
 repeat' first
  | (refine And.intro ?_ ?_)
  | (intro h;cases h)
  | (intro h;rw [h])
  | (intro h)
 all_goals first
  | exact True.intro
  | exact rfl
  | exact Or.inr rfl
  | exact ⟨_,_,_,rfl⟩
theorem any166:∃ g:List SV→Bool,FOk Tryz.prog T 166 { pre:=fun args=>∃ a:List D,WfRow T cV a∧args=[argG cV a],res:=fun args=>.val false [.b (g args)] }∧∀ args,(fun args=>∃ a:List D,WfRow T cV a∧args=[argG cV a]) args→(∀ a ∈ args,WfSV T a)→(fun _ _=>True) args (g args):=by
 refine fokA (fun _ x=>.val false [.b x]) (post:=fun _ _=>True) (env:=envL []) (N:=16) tabT ae mixed Tryz.func166 rfl Tryz.call166 Tryz.ntmps166 ?_
 rintro args ⟨a,wa,rfl⟩ hwf
 refine ⟨by simp,?_⟩
 rw [Tryz.results166]
 repeat' first
  | (refine And.intro ?_ ?_)
  | (intro h;cases h)
  | (intro h;rw [h])
  | (intro h)
 all_goals first
  | exact Or.inr rfl
  | exact ⟨_,trivial,rfl,trivial⟩
noncomputable def g166:List SV→Bool:=any166.choose
noncomputable def jaB:FSpec:={ pre:=fun args=>∃ a:List D,WfRow T cV a∧args=[argG cV a],res:=fun args=>.val false [.b (g166 args)] }
theorem ok166:FOk Tryz.prog T 166 jaB:=any166.choose_spec.1
theorem any94:∃ g:List SV→Int,FOk Tryz.prog T 94 { pre:=fun args=>∃ x y:Int,args=[.val false [.i .i64 x],.val false [.i .i64 y]],res:=fun args=>.val false [.i .i64 (g args)] }∧∀ args,(fun args=>∃ x y:Int,args=[.val false [.i .i64 x],.val false [.i .i64 y]]) args→(∀ a ∈ args,WfSV T a)→(fun _ _=>True) args (g args):=by
 refine fokA (fun _ x=>.val false [.i .i64 x]) (post:=fun _ _=>True) (env:=envL []) (N:=10) tabT ae mixed Tryz.func94 rfl Tryz.call94 Tryz.ntmps94 ?_
 rintro args ⟨x,y,rfl⟩ hwf
 refine ⟨by simp,?_⟩
 rw [Tryz.results94]
 repeat' first
  | (refine And.intro ?_ ?_)
  | (intro h;cases h)
  | (intro h;rw [h])
  | (intro h)
 all_goals first
  | exact Or.inr rfl
  | exact ⟨_,trivial,rfl,trivial⟩
noncomputable def g94:List SV→Int:=any94.choose
noncomputable def sp94:FSpec:={ pre:=fun args=>∃ x y:Int,args=[.val false [.i .i64 x],.val false [.i .i64 y]],res:=fun args=>.val false [.i .i64 (g94 args)] }
theorem ok94:FOk Tryz.prog T 94 sp94:=any94.choose_spec.1
theorem any123:∃ g:List SV→Bool,FOk Tryz.prog T 123 { pre:=fun args=>∃ s:ByteArray,args=[.val false [.s s]],res:=fun args=>.val false [.b (g args)] }∧∀ args,(fun args=>∃ s:ByteArray,args=[.val false [.s s]]) args→(∀ a ∈ args,WfSV T a)→(fun _ _=>True) args (g args):=by
 refine fokA (fun _ x=>.val false [.b x]) (post:=fun _ _=>True) (env:=envL []) (N:=29) tabT ae mixed Tryz.func123 rfl Tryz.call123 Tryz.ntmps123 ?_
 rintro args ⟨s,rfl⟩ hwf
 have la:s.size≤maxLen:=arg0 hwf (jcC _)
 refine ⟨by simp,?_⟩
 rw [Tryz.results123]
 repeat' first
  | (refine And.intro ?_ ?_)
  | (intro h;cases h)
  | (intro h;rw [h])
  | (intro h)
 all_goals first
  | skip
 refine am (Q:=_) [0,3] [] (fun n q=>∃ i:Int,q=([.val false [.s s],.val false [.i .i64 i]],[])∧0≤i∧i≤s.size∧n=s.size - i.toNat) ?_ ?_
 · exact ⟨rfl,s.size - 0,0,rfl,by omega,by omega,rfl⟩
 rintro n q ⟨i,rfl,h1,h2,h3⟩
 repeat' first
  | (refine And.intro ?_ ?_)
  | (intro h;cases h)
  | (intro h;rw [h])
  | (intro h)
 all_goals first
  | exact rfl
  | exact Or.inr rfl
  | exact ⟨_,trivial,rfl,trivial⟩
  | omega
  | exact jck ‹_›
  | (have hi:i < (s.size:Int):=jck ‹decide (i < (s.size:Int))=true›
     exact ⟨s.size - (i+1).toNat,by omega,i+1,congrArg (fun z:Int=>((([.val false [.s s],.val false [.i .i64 z]],[])):Snap)) (aE h1 hi la),by omega,by omega,rfl⟩)
noncomputable def g123:List SV→Bool:=any123.choose
noncomputable def jaD:FSpec:={ pre:=fun args=>∃ s:ByteArray,args=[.val false [.s s]],res:=fun args=>.val false [.b (g123 args)] }
theorem ok123:FOk Tryz.prog T 123 jaD:=any123.choose_spec.1
theorem any220:∃ g:List SV→Bool,FOk Tryz.prog T 220 { pre:=fun args=>∃ s:ByteArray,args=[.val false [.s s]],res:=fun args=>.val false [.b (g args)] }∧∀ args,(fun args=>∃ s:ByteArray,args=[.val false [.s s]]) args→(∀ a ∈ args,WfSV T a)→(fun _ _=>True) args (g args):=by
 refine fokA (fun _ x=>.val false [.b x]) (post:=fun _ _=>True) (env:=envL []) (N:=45) tabT ae mixed Tryz.func220 rfl Tryz.call220 Tryz.ntmps220 ?_
 rintro args ⟨s,rfl⟩ hwf
 have la:s.size≤maxLen:=arg0 hwf (jcC _)
 refine ⟨by simp,?_⟩
 rw [Tryz.results220]
 repeat' first
  | (refine And.intro ?_ ?_)
  | (intro h;cases h)
  | (intro h;rw [h])
  | (intro h)
 all_goals first
  | skip
 refine am (Q:=_) [0,3] [] (fun n q=>∃ i:Int,q=([.val false [.s s],.val false [.i .i64 i]],[])∧0≤i∧i≤s.size∧n=s.size - i.toNat) ?_ ?_
 · exact ⟨rfl,s.size - 0,0,rfl,by omega,by omega,rfl⟩
 rintro n q ⟨i,rfl,h1,h2,h3⟩
 repeat' first
  | (refine And.intro ?_ ?_)
  | (intro h;cases h)
  | (intro h;rw [h])
  | (intro h)
 all_goals first
  | exact rfl
  | exact Or.inr rfl
  | exact ⟨_,trivial,rfl,trivial⟩
  | omega
  | exact jck ‹_›
  | (have hi:i < (s.size:Int):=jck ‹decide (i < (s.size:Int))=true›
     exact ⟨s.size - (i+1).toNat,by omega,i+1,congrArg (fun z:Int=>((([.val false [.s s],.val false [.i .i64 z]],[])):Snap)) (aE h1 hi la),by omega,by omega,rfl⟩)
noncomputable def g220:List SV→Bool:=any220.choose
noncomputable def jau:FSpec:={ pre:=fun args=>∃ s:ByteArray,args=[.val false [.s s]],res:=fun args=>.val false [.b (g220 args)] }
theorem ok220:FOk Tryz.prog T 220 jau:=any220.choose_spec.1
theorem any222:∃ g:List SV→Bool,FOk Tryz.prog T 222 { pre:=fun args=>∃ (a:List (List D)) (s:ByteArray),args=[argS 9 a,.val false [.s s]],res:=fun args=>.val false [.b (g args)] }∧∀ args,(fun args=>∃ (a:List (List D)) (s:ByteArray),args=[argS 9 a,.val false [.s s]]) args→(∀ a ∈ args,WfSV T a)→(fun _ _=>True) args (g args):=by
 refine fokA (fun _ x=>.val false [.b x]) (post:=fun _ _=>True) (env:=envL []) (N:=18) tabT ae mixed Tryz.func222 rfl Tryz.call222 Tryz.ntmps222 ?_
 rintro args ⟨a,s,rfl⟩ hwf
 have wa:WfD T (.l 9) (.l a):=arg0 hwf (jcC _)
 have la:=wa.len
 refine ⟨by simp,?_⟩
 rw [Tryz.results222]
 repeat' first
  | (refine And.intro ?_ ?_)
  | (intro h;cases h)
  | (intro h;rw [h])
  | (intro h)
 all_goals first
  | skip
 refine am (Q:=_) [0,1,5] [] (fun n q=>∃ i:Int,q=([argS 9 a,.val false [.s s],.val false [.i .i64 i]],[])∧0≤i∧i≤a.length∧n=a.length - i.toNat) ?_ ?_
 · exact ⟨rfl,a.length - 0,0,rfl,by omega,by omega,rfl⟩
 rintro n q ⟨i,rfl,h1,h2,h3⟩
 repeat' first
  | (refine And.intro ?_ ?_)
  | (intro h;cases h)
  | (intro h;rw [h])
  | (intro h)
 all_goals first
  | exact rfl
  | exact Or.inr rfl
  | exact ⟨_,trivial,rfl,trivial⟩
  | omega
  | exact jck ‹_›
  | (have hi:i < (a.length:Int):=jck ‹decide (i < (a.length:Int))=true›
     exact ⟨a.length - (i+1).toNat,by omega,i+1,congrArg (fun z:Int=>((([argS 9 a,.val false [.s s],.val false [.i .i64 z]],[])):Snap)) (aE h1 hi la),by omega,by omega,rfl⟩)
noncomputable def g222:List SV→Bool:=any222.choose
noncomputable def yj:FSpec:={ pre:=fun args=>∃ (a:List (List D)) (s:ByteArray),args=[argS 9 a,.val false [.s s]],res:=fun args=>.val false [.b (g222 args)] }
theorem ok222:FOk Tryz.prog T 222 yj:=any222.choose_spec.1
theorem any227:∃ h:List SV→List (List D),FOk Tryz.prog T 227 { pre:=fun args=>args=[],res:=fun args=>argS 9 (h args) }∧∀ args,args=[]→(∀ a ∈ args,WfSV T a)→True:=by
 refine fokA (fun _ x=>argS 9 x) (post:=fun _ _=>True) (env:=envL []) (N:=2) tabT ae mixed Tryz.func227 rfl Tryz.call227 Tryz.ntmps227 ?_
 rintro args rfl hwf
 refine ⟨by simp,?_⟩
 rw [Tryz.results227]
 repeat' first
  | (refine And.intro ?_ ?_)
  | (intro h;cases h)
  | (intro h;rw [h])
  | (intro h)
 all_goals first
  | exact Or.inr rfl
  | exact ⟨_,trivial,rfl,trivial⟩
noncomputable def g227:List SV→List (List D):=any227.choose
noncomputable def jas:FSpec:={ pre:=fun args=>args=[],res:=fun args=>argS 9 (g227 args) }
theorem ok227:FOk Tryz.prog T 227 jas:=any227.choose_spec.1
theorem any221:∃ g:List SV→Bool,FOk Tryz.prog T 221 { pre:=fun args=>∃ s:ByteArray,args=[.val false [.s s]],res:=fun args=>.val false [.b (g args)] }∧∀ args,(fun args=>∃ s:ByteArray,args=[.val false [.s s]]) args→(∀ a ∈ args,WfSV T a)→(fun _ _=>True) args (g args):=by
 refine fokA (fun _ x=>.val false [.b x]) (post:=fun _ _=>True) (env:=envL [(227,jas),(222,yj)]) (N:=6) tabT (aa ok227 (aa ok222 ae)) mixed Tryz.func221 rfl Tryz.call221 Tryz.ntmps221 ?_
 rintro args ⟨s,rfl⟩ hwf
 have la:s.size≤maxLen:=arg0 hwf (jcC _)
 refine ⟨by simp,?_⟩
 rw [Tryz.results221]
 repeat' first
  | (refine And.intro ?_ ?_)
  | (intro h;cases h)
  | (intro h;rw [h])
  | (intro h)
 all_goals first
  | exact rfl
  | exact Or.inr rfl
  | exact ⟨_,trivial,rfl,trivial⟩
  | exact ⟨_,_,rfl⟩
noncomputable def g221:List SV→Bool:=any221.choose
noncomputable def jat:FSpec:={ pre:=fun args=>∃ s:ByteArray,args=[.val false [.s s]],res:=fun args=>.val false [.b (g221 args)] }
theorem ok221:FOk Tryz.prog T 221 jat:=any221.choose_spec.1
theorem any201:∃ g:List SV→Bool,FOk Tryz.prog T 201 { pre:=fun args=>∃ s:ByteArray,args=[.val false [.s s]],res:=fun args=>.val false [.b (g args)] }∧∀ args,(fun args=>∃ s:ByteArray,args=[.val false [.s s]]) args→(∀ a ∈ args,WfSV T a)→(fun _ _=>True) args (g args):=by
 refine fokA (fun _ x=>.val false [.b x]) (post:=fun _ _=>True) (env:=envL [(220,jau),(221,jat)]) (N:=15) tabT (aa ok220 (aa ok221 ae)) mixed Tryz.func201 rfl Tryz.call201 Tryz.ntmps201 ?_
 rintro args ⟨s,rfl⟩ hwf
 have la:s.size≤maxLen:=arg0 hwf (jcC _)
 refine ⟨by simp,?_⟩
 rw [Tryz.results201]
 repeat' first
  | (refine And.intro ?_ ?_)
  | (intro h;cases h)
  | (intro h;rw [h])
  | (intro h)
 all_goals first
  | exact Or.inr rfl
  | exact ⟨_,trivial,rfl,trivial⟩
  | exact ⟨_,rfl⟩
noncomputable def g201:List SV→Bool:=any201.choose
noncomputable def jax:FSpec:={ pre:=fun args=>∃ s:ByteArray,args=[.val false [.s s]],res:=fun args=>.val false [.b (g201 args)] }
theorem ok201:FOk Tryz.prog T 201 jax:=any201.choose_spec.1
theorem any202:∃ g:List SV→Bool,FOk Tryz.prog T 202 { pre:=fun args=>∃ a:List (List D),args=[argS 9 a],res:=fun args=>.val false [.b (g args)] }∧∀ args,(fun args=>∃ a:List (List D),args=[argS 9 a]) args→(∀ a ∈ args,WfSV T a)→(fun _ _=>True) args (g args):=by
 refine fokA (fun _ x=>.val false [.b x]) (post:=fun _ _=>True) (env:=envL [(222,yj)]) (N:=18) tabT (aa ok222 ae) mixed Tryz.func202 rfl Tryz.call202 Tryz.ntmps202 ?_
 rintro args ⟨a,rfl⟩ hwf
 have wa:WfD T (.l 9) (.l a):=arg0 hwf (jcC _)
 have la:=wa.len
 refine ⟨by simp,?_⟩
 rw [Tryz.results202]
 repeat' first
  | (refine And.intro ?_ ?_)
  | (intro h;cases h)
  | (intro h;rw [h])
  | (intro h)
 all_goals first
  | skip
 refine am (Q:=_) [0,3] [] (fun n q=>∃ i:Int,q=([argS 9 a,.val false [.i .i64 i]],[])∧0≤i∧i≤a.length∧n=a.length - i.toNat) ?_ ?_
 · exact ⟨rfl,a.length - 0,0,rfl,by omega,by omega,rfl⟩
 rintro n q ⟨i,rfl,h1,h2,h3⟩
 repeat' first
  | (refine And.intro ?_ ?_)
  | (intro h;cases h)
  | (intro h;rw [h])
  | (intro h)
 all_goals first
  | (show av _=true;kernel_rfl)
  | (show aX _ _=true;kernel_rfl)
  | exact rfl
  | exact Or.inr rfl
  | exact ⟨_,trivial,rfl,trivial⟩
  | exact ⟨_,_,rfl⟩
  | omega
  | exact jck ‹_›
  | (have hi:i < (a.length:Int):=jck ‹decide (i < (a.length:Int))=true›
     exact ⟨a.length - (i+1).toNat,by omega,i+1,congrArg (fun z:Int=>((([argS 9 a,.val false [.i .i64 z]],[])):Snap)) (aE h1 hi la),by omega,by omega,rfl⟩)
noncomputable def g202:List SV→Bool:=any202.choose
noncomputable def jaw:FSpec:={ pre:=fun args=>∃ a:List (List D),args=[argS 9 a],res:=fun args=>.val false [.b (g202 args)] }
theorem ok202:FOk Tryz.prog T 202 jaw:=any202.choose_spec.1
theorem any168:∃ g:List SV→Bool,FOk Tryz.prog T 168 { pre:=fun args=>∃ a:List (List D),args=[argS 9 a],res:=fun args=>.val false [.b (g args)] }∧∀ args,(fun args=>∃ a:List (List D),args=[argS 9 a]) args→(∀ a ∈ args,WfSV T a)→(fun _ _=>True) args (g args):=by
 refine fokA (fun _ x=>.val false [.b x]) (post:=fun _ _=>True) (env:=envL [(201,jax),(126,spIn),(202,jaw)]) (N:=23) tabT (aa ok201 (aa ok126 (aa ok202 ae))) mixed Tryz.func168 rfl Tryz.call168 Tryz.ntmps168 ?_
 rintro args ⟨a,rfl⟩ hwf
 have wa:WfD T (.l 9) (.l a):=arg0 hwf (jcC _)
 have la:=wa.len
 refine ⟨by simp,?_⟩
 rw [Tryz.results168]
 repeat' first
  | (refine And.intro ?_ ?_)
  | (intro h;cases h)
  | (intro h;rw [h])
  | (intro h)
 all_goals first
  | skip
 refine am (Q:=_) [0,3] [] (fun n q=>∃ i:Int,q=([argS 9 a,.val false [.i .i64 i]],[])∧0≤i∧i≤a.length∧n=a.length - i.toNat) ?_ ?_
 · exact ⟨rfl,a.length - 0,0,rfl,by omega,by omega,rfl⟩
 rintro n q ⟨i,rfl,h1,h2,h3⟩
 repeat' first
  | (refine And.intro ?_ ?_)
  | (intro h;cases h)
  | (intro h;rw [h])
  | (intro h)
 all_goals first
  | exact rfl
  | exact Or.inr rfl
  | exact ⟨_,trivial,rfl,trivial⟩
  | exact ⟨_,rfl⟩
  | exact ⟨_,_,_,rfl⟩
  | omega
  | exact jck ‹_›
  | (have hi:i < (a.length:Int):=jck ‹decide (i < (a.length:Int))=true›
     exact ⟨a.length - (i+1).toNat,by omega,i+1,congrArg (fun z:Int=>((([argS 9 a,.val false [.i .i64 z]],[])):Snap)) (aE h1 hi la),by omega,by omega,rfl⟩)
noncomputable def g168:List SV→Bool:=any168.choose
noncomputable def jaz:FSpec:={ pre:=fun args=>∃ a:List (List D),args=[argS 9 a],res:=fun args=>.val false [.b (g168 args)] }
theorem ok168:FOk Tryz.prog T 168 jaz:=any168.choose_spec.1
theorem any203:∃ g:List SV→Bool,FOk Tryz.prog T 203 { pre:=fun args=>∃ a b:List D,WfRow T [.i .i64,.i .i64] a∧WfRow T [.i .i64,.i .i64] b∧args=[argG [.i .i64,.i .i64] a,argG [.i .i64,.i .i64] b],res:=fun args=>.val false [.b (g args)] }∧∀ args,(fun args=>∃ a b:List D,WfRow T [.i .i64,.i .i64] a∧WfRow T [.i .i64,.i .i64] b∧args=[argG [.i .i64,.i .i64] a,argG [.i .i64,.i .i64] b]) args→(∀ a ∈ args,WfSV T a)→(fun _ _=>True) args (g args):=by
 refine fokA (fun _ x=>.val false [.b x]) (post:=fun _ _=>True) (env:=envL []) (N:=24) tabT ae mixed Tryz.func203 rfl Tryz.call203 Tryz.ntmps203 ?_
 rintro args ⟨a,b,wa,wb,rfl⟩ hwf
 refine ⟨by simp,?_⟩
 rw [Tryz.results203]
 repeat' first
  | (refine And.intro ?_ ?_)
  | (intro h;cases h)
  | (intro h;rw [h])
  | (intro h)
 all_goals first
  | exact Or.inr rfl
  | exact ⟨_,trivial,rfl,trivial⟩
noncomputable def g203:List SV→Bool:=any203.choose
noncomputable def jav:FSpec:={ pre:=fun args=>∃ a b:List D,WfRow T [.i .i64,.i .i64] a∧WfRow T [.i .i64,.i .i64] b∧args=[argG [.i .i64,.i .i64] a,argG [.i .i64,.i .i64] b],res:=fun args=>.val false [.b (g203 args)] }
theorem ok203:FOk Tryz.prog T 203 jav:=any203.choose_spec.1
theorem any169:∃ g:List SV→Bool,FOk Tryz.prog T 169 { pre:=fun args=>∃ a:List (List D),args=[argS 126 a],res:=fun args=>.val false [.b (g args)] }∧∀ args,(fun args=>∃ a:List (List D),args=[argS 126 a]) args→(∀ a ∈ args,WfSV T a)→(fun _ _=>True) args (g args):=by
 refine fokA (fun _ x=>.val false [.b x]) (post:=fun _ _=>True) (env:=envL [(203,jav)]) (N:=41) tabT (aa ok203 ae) mixed Tryz.func169 rfl Tryz.call169 Tryz.ntmps169 ?_
 rintro args ⟨a,rfl⟩ hwf
 have wa:WfD T (.l 126) (.l a):=arg0 hwf (jcC _)
 have la:=wa.len
 refine ⟨by simp,?_⟩
 rw [Tryz.results169]
 repeat' first
  | (refine And.intro ?_ ?_)
  | (intro h;cases h)
  | (intro h;rw [h])
  | (intro h)
 all_goals first
  | skip
 refine am (Q:=_) [0,3] [] (fun n q=>∃ i:Int,q=([argS 126 a,.val false [.i .i64 i]],[])∧0≤i∧i≤a.length∧n=a.length - i.toNat) ?_ ?_
 · exact ⟨rfl,a.length - 0,0,rfl,by omega,by omega,rfl⟩
 rintro n q ⟨i,rfl,h1,h2,h3⟩
 repeat' first
  | (refine And.intro ?_ ?_)
  | (intro h;cases h)
  | (intro h;rw [h])
  | (intro h)
 all_goals first
  | (show av _=true;kernel_rfl)
  | (show aX _ _=true;kernel_rfl)
  | exact rfl
  | exact Or.inr rfl
  | exact ⟨_,trivial,rfl,trivial⟩
  | omega
  | exact jck ‹_›
  | (have hi:i < (a.length:Int):=jck ‹decide (i < (a.length:Int))=true›
     exact ⟨a.length - (i+1).toNat,by omega,i+1,congrArg (fun z:Int=>((([argS 126 a,.val false [.i .i64 z]],[])):Snap)) (aE h1 hi la),by omega,by omega,rfl⟩)
  | (have hi:i < (a.length:Int):=jck ‹decide (i < (a.length:Int))=true›
     have h0:i > 0:=jck ‹decide (i > 0)=true›
     have hw:IntKind.i64.wrap (i - 1)=i - 1:=by rw [IntKind.wrap_i64];simp only [maxLen] at la;omega
     have wr:WfRow T [.i .i64,.i .i64] (a.getD i.toNat []):=wa.row rfl (by omega)
     have wq:WfRow T [.i .i64,.i .i64] (a.getD (IntKind.i64.wrap (i - 1)).toNat []):=wa.row rfl (by rw [hw];omega)
     first
      | (rw [hw];omega)
      | exact ⟨_,_,wq,wr,rfl⟩)
noncomputable def g169:List SV→Bool:=any169.choose
noncomputable def jay:FSpec:={ pre:=fun args=>∃ a:List (List D),args=[argS 126 a],res:=fun args=>.val false [.b (g169 args)] }
theorem ok169:FOk Tryz.prog T 169 jay:=any169.choose_spec.1
end Go.Proofs.YtcllpknipmcolaaGreatDoor.Ab
