/- A part. -/
import Derived.Test.YtdkofgjbbdbglaaGreatDoorCQa
namespace Go.Proofs.YtdkofgjbbdbglaaGreatDoor.Ab
open Go.RowKit
set_option linter.all false
set_option maxRecDepth 100000
set_option maxHeartbeats 1000000
theorem ok37:FOk Tryz.prog T 37 spIn:=by
 refine fok (env:=envL []) (N:=15) tabT ae mixed Tryz.func37 rfl Tryz.call37 Tryz.ntmps37 ?_
 rintro args ⟨x,lo,hi,rfl⟩ hwf
 refine ⟨by simp,?_⟩
 rw [Tryz.results37]
 repeat' first
  | refine And.intro ?_ ?_
  | (intro h;cases h)
  | (intro h;rw [h])
  | intro h
 all_goals first
  | exact True.intro
  | exact Or.inr rfl
  | (refine resB ?_;simp_all [inR];done)
  | (refine resB ?_;simp_all [inR];omega)
theorem ok92:FOk Tryz.prog T 92 jb:=by
 refine fok (env:=envL [(37,spIn)]) (N:=5) tabT (aa ok37 ae) mixed Tryz.func92 rfl Tryz.call92 Tryz.ntmps92 ?_
 rintro args ⟨x,rfl⟩ hwf
 refine ⟨by simp,?_⟩
 rw [Tryz.results92]
 repeat' first
  | refine And.intro ?_ ?_
  | (intro h;cases h)
  | (intro h;rw [h])
  | intro h
 all_goals first
  | exact True.intro
  | exact rfl
  | exact Or.inr rfl
  | exact ⟨_,_,_,rfl⟩
theorem ok33:FOk Tryz.prog T 33 spIn:=by
 refine fok (env:=envL []) (N:=15) tabT ae mixed Tryz.func33 rfl Tryz.call33 Tryz.ntmps33 ?_
 rintro args ⟨x,lo,hi,rfl⟩ hwf
 refine ⟨by simp,?_⟩
 rw [Tryz.results33]
 repeat' first
  | refine And.intro ?_ ?_
  | (intro h;cases h)
  | (intro h;rw [h])
  | intro h
 all_goals first
  | exact True.intro
  | exact Or.inr rfl
  | (refine resB ?_;simp_all [inR];done)
  | (refine resB ?_;simp_all [inR];omega)
theorem ok82:FOk Tryz.prog T 82 jb:=by
 refine fok (env:=envL [(33,spIn)]) (N:=5) tabT (aa ok33 ae) mixed Tryz.func82 rfl Tryz.call82 Tryz.ntmps82 ?_
 rintro args ⟨x,rfl⟩ hwf
 refine ⟨by simp,?_⟩
 rw [Tryz.results82]
 repeat' first
  | refine And.intro ?_ ?_
  | (intro h;cases h)
  | (intro h;rw [h])
  | intro h
 all_goals first
  | exact True.intro
  | exact rfl
  | exact Or.inr rfl
  | exact ⟨_,_,_,rfl⟩
theorem any169:∃ g:List SV→Bool,FOk Tryz.prog T 169 { pre:=fun args=>∃ a:List D,WfRow T cV a∧args=[argG cV a],res:=fun args=>.val false [.b (g args)] }∧∀ args,(fun args=>∃ a:List D,WfRow T cV a∧args=[argG cV a]) args→(∀ a ∈ args,WfSV T a)→(fun _ _=>True) args (g args):=by
 refine fokA (fun _ x=>.val false [.b x]) (post:=fun _ _=>True) (env:=envL []) (N:=16) tabT ae mixed Tryz.func169 rfl Tryz.call169 Tryz.ntmps169 ?_
 rintro args ⟨a,wa,rfl⟩ hwf
 refine ⟨by simp,?_⟩
 rw [Tryz.results169]
 repeat' first
  | refine And.intro ?_ ?_
  | (intro h;cases h)
  | (intro h;rw [h])
  | intro h
 all_goals first
  | exact Or.inr rfl
  | exact ⟨_,trivial,rfl,trivial⟩
noncomputable def g169:List SV→Bool:=any169.choose
noncomputable def jbh:FSpec:={ pre:=fun args=>∃ a:List D,WfRow T cV a∧args=[argG cV a],res:=fun args=>.val false [.b (g169 args)] }
theorem ok169:FOk Tryz.prog T 169 jbh:=any169.choose_spec.1
theorem any77:∃ g:List SV→Int,FOk Tryz.prog T 77 { pre:=fun args=>∃ x y:Int,args=[.val false [.i .i64 x],.val false [.i .i64 y]],res:=fun args=>.val false [.i .i64 (g args)] }∧∀ args,(fun args=>∃ x y:Int,args=[.val false [.i .i64 x],.val false [.i .i64 y]]) args→(∀ a ∈ args,WfSV T a)→(fun _ _=>True) args (g args):=by
 refine fokA (fun _ x=>.val false [.i .i64 x]) (post:=fun _ _=>True) (env:=envL []) (N:=10) tabT ae mixed Tryz.func77 rfl Tryz.call77 Tryz.ntmps77 ?_
 rintro args ⟨x,y,rfl⟩ hwf
 refine ⟨by simp,?_⟩
 rw [Tryz.results77]
 repeat' first
  | refine And.intro ?_ ?_
  | (intro h;cases h)
  | (intro h;rw [h])
  | intro h
 all_goals first
  | exact Or.inr rfl
  | exact ⟨_,trivial,rfl,trivial⟩
noncomputable def g77:List SV→Int:=any77.choose
noncomputable def sp77:FSpec:={ pre:=fun args=>∃ x y:Int,args=[.val false [.i .i64 x],.val false [.i .i64 y]],res:=fun args=>.val false [.i .i64 (g77 args)] }
theorem ok77:FOk Tryz.prog T 77 sp77:=any77.choose_spec.1
theorem any117:∃ g:List SV→Bool,FOk Tryz.prog T 117 { pre:=fun args=>∃ s:ByteArray,args=[.val false [.s s]],res:=fun args=>.val false [.b (g args)] }∧∀ args,(fun args=>∃ s:ByteArray,args=[.val false [.s s]]) args→(∀ a ∈ args,WfSV T a)→(fun _ _=>True) args (g args):=by
 refine fokA (fun _ x=>.val false [.b x]) (post:=fun _ _=>True) (env:=envL []) (N:=29) tabT ae mixed Tryz.func117 rfl Tryz.call117 Tryz.ntmps117 ?_
 rintro args ⟨s,rfl⟩ hwf
 have la:s.size≤maxLen:=arg0 hwf (jdo _)
 refine ⟨by simp,?_⟩
 rw [Tryz.results117]
 repeat' first
  | refine And.intro ?_ ?_
  | (intro h;cases h)
  | (intro h;rw [h])
  | intro h
 all_goals first
  | skip
 refine aj (Q:=_) [0,3] [] (fun n q=>∃ i:Int,q=([.val false [.s s],.val false [.i .i64 i]],[])∧0≤i∧i≤s.size∧n=s.size - i.toNat) ?_ ?_
 · exact ⟨rfl,s.size - 0,0,rfl,by omega,by omega,rfl⟩
 rintro n q ⟨i,rfl,h1,h2,h3⟩
 repeat' first
  | refine And.intro ?_ ?_
  | (intro h;cases h)
  | (intro h;rw [h])
  | intro h
 all_goals first
  | exact rfl
  | exact Or.inr rfl
  | exact ⟨_,trivial,rfl,trivial⟩
  | omega
  | exact jc6 ‹_›
  | (have hi:i < (s.size:Int):=jc6 ‹decide (i < (s.size:Int))=true›
     exact ⟨s.size - (i+1).toNat,by omega,i+1,congrArg (fun z:Int=>((([.val false [.s s],.val false [.i .i64 z]],[])):Snap)) (aC h1 hi la),by omega,by omega,rfl⟩)
noncomputable def g117:List SV→Bool:=any117.choose
noncomputable def jbj:FSpec:={ pre:=fun args=>∃ s:ByteArray,args=[.val false [.s s]],res:=fun args=>.val false [.b (g117 args)] }
theorem ok117:FOk Tryz.prog T 117 jbj:=any117.choose_spec.1
theorem any226:∃ g:List SV→Bool,FOk Tryz.prog T 226 { pre:=fun args=>∃ s:ByteArray,args=[.val false [.s s]],res:=fun args=>.val false [.b (g args)] }∧∀ args,(fun args=>∃ s:ByteArray,args=[.val false [.s s]]) args→(∀ a ∈ args,WfSV T a)→(fun _ _=>True) args (g args):=by
 refine fokA (fun _ x=>.val false [.b x]) (post:=fun _ _=>True) (env:=envL []) (N:=45) tabT ae mixed Tryz.func226 rfl Tryz.call226 Tryz.ntmps226 ?_
 rintro args ⟨s,rfl⟩ hwf
 have la:s.size≤maxLen:=arg0 hwf (jdo _)
 refine ⟨by simp,?_⟩
 rw [Tryz.results226]
 repeat' first
  | refine And.intro ?_ ?_
  | (intro h;cases h)
  | (intro h;rw [h])
  | intro h
 all_goals first
  | skip
 refine aj (Q:=_) [0,3] [] (fun n q=>∃ i:Int,q=([.val false [.s s],.val false [.i .i64 i]],[])∧0≤i∧i≤s.size∧n=s.size - i.toNat) ?_ ?_
 · exact ⟨rfl,s.size - 0,0,rfl,by omega,by omega,rfl⟩
 rintro n q ⟨i,rfl,h1,h2,h3⟩
 repeat' first
  | refine And.intro ?_ ?_
  | (intro h;cases h)
  | (intro h;rw [h])
  | intro h
 all_goals first
  | exact rfl
  | exact Or.inr rfl
  | exact ⟨_,trivial,rfl,trivial⟩
  | omega
  | exact jc6 ‹_›
  | (have hi:i < (s.size:Int):=jc6 ‹decide (i < (s.size:Int))=true›
     exact ⟨s.size - (i+1).toNat,by omega,i+1,congrArg (fun z:Int=>((([.val false [.s s],.val false [.i .i64 z]],[])):Snap)) (aC h1 hi la),by omega,by omega,rfl⟩)
noncomputable def g226:List SV→Bool:=any226.choose
noncomputable def jba:FSpec:={ pre:=fun args=>∃ s:ByteArray,args=[.val false [.s s]],res:=fun args=>.val false [.b (g226 args)] }
theorem ok226:FOk Tryz.prog T 226 jba:=any226.choose_spec.1
theorem any228:∃ g:List SV→Bool,FOk Tryz.prog T 228 { pre:=fun args=>∃ (a:List (List D)) (s:ByteArray),args=[argS 9 a,.val false [.s s]],res:=fun args=>.val false [.b (g args)] }∧∀ args,(fun args=>∃ (a:List (List D)) (s:ByteArray),args=[argS 9 a,.val false [.s s]]) args→(∀ a ∈ args,WfSV T a)→(fun _ _=>True) args (g args):=by
 refine fokA (fun _ x=>.val false [.b x]) (post:=fun _ _=>True) (env:=envL []) (N:=18) tabT ae mixed Tryz.func228 rfl Tryz.call228 Tryz.ntmps228 ?_
 rintro args ⟨a,s,rfl⟩ hwf
 have wa:WfD T (.l 9) (.l a):=arg0 hwf (jdo _)
 have la:=wa.len
 refine ⟨by simp,?_⟩
 rw [Tryz.results228]
 repeat' first
  | refine And.intro ?_ ?_
  | (intro h;cases h)
  | (intro h;rw [h])
  | intro h
 all_goals first
  | skip
 refine aj (Q:=_) [0,1,5] [] (fun n q=>∃ i:Int,q=([argS 9 a,.val false [.s s],.val false [.i .i64 i]],[])∧0≤i∧i≤a.length∧n=a.length - i.toNat) ?_ ?_
 · exact ⟨rfl,a.length - 0,0,rfl,by omega,by omega,rfl⟩
 rintro n q ⟨i,rfl,h1,h2,h3⟩
 repeat' first
  | refine And.intro ?_ ?_
  | (intro h;cases h)
  | (intro h;rw [h])
  | intro h
 all_goals first
  | exact rfl
  | exact Or.inr rfl
  | exact ⟨_,trivial,rfl,trivial⟩
  | omega
  | exact jc6 ‹_›
  | (have hi:i < (a.length:Int):=jc6 ‹decide (i < (a.length:Int))=true›
     exact ⟨a.length - (i+1).toNat,by omega,i+1,congrArg (fun z:Int=>((([argS 9 a,.val false [.s s],.val false [.i .i64 z]],[])):Snap)) (aC h1 hi la),by omega,by omega,rfl⟩)
noncomputable def g228:List SV→Bool:=any228.choose
noncomputable def yP:FSpec:={ pre:=fun args=>∃ (a:List (List D)) (s:ByteArray),args=[argS 9 a,.val false [.s s]],res:=fun args=>.val false [.b (g228 args)] }
theorem ok228:FOk Tryz.prog T 228 yP:=any228.choose_spec.1
theorem any234:∃ h:List SV→List (List D),FOk Tryz.prog T 234 { pre:=fun args=>args=[],res:=fun args=>argS 9 (h args) }∧∀ args,args=[]→(∀ a ∈ args,WfSV T a)→True:=by
 refine fokA (fun _ x=>argS 9 x) (post:=fun _ _=>True) (env:=envL []) (N:=2) tabT ae mixed Tryz.func234 rfl Tryz.call234 Tryz.ntmps234 ?_
 rintro args rfl hwf
 refine ⟨by simp,?_⟩
 rw [Tryz.results234]
 repeat' first
  | refine And.intro ?_ ?_
  | (intro h;cases h)
  | (intro h;rw [h])
  | intro h
 all_goals first
  | exact Or.inr rfl
  | exact ⟨_,trivial,rfl,trivial⟩
noncomputable def g234:List SV→List (List D):=any234.choose
noncomputable def ja8:FSpec:={ pre:=fun args=>args=[],res:=fun args=>argS 9 (g234 args) }
theorem ok234:FOk Tryz.prog T 234 ja8:=any234.choose_spec.1
theorem any227:∃ g:List SV→Bool,FOk Tryz.prog T 227 { pre:=fun args=>∃ s:ByteArray,args=[.val false [.s s]],res:=fun args=>.val false [.b (g args)] }∧∀ args,(fun args=>∃ s:ByteArray,args=[.val false [.s s]]) args→(∀ a ∈ args,WfSV T a)→(fun _ _=>True) args (g args):=by
 refine fokA (fun _ x=>.val false [.b x]) (post:=fun _ _=>True) (env:=envL [(234,ja8),(228,yP)]) (N:=6) tabT (aa ok234 (aa ok228 ae)) mixed Tryz.func227 rfl Tryz.call227 Tryz.ntmps227 ?_
 rintro args ⟨s,rfl⟩ hwf
 have la:s.size≤maxLen:=arg0 hwf (jdo _)
 refine ⟨by simp,?_⟩
 rw [Tryz.results227]
 repeat' first
  | refine And.intro ?_ ?_
  | (intro h;cases h)
  | (intro h;rw [h])
  | intro h
 all_goals first
  | exact rfl
  | exact Or.inr rfl
  | exact ⟨_,trivial,rfl,trivial⟩
  | exact ⟨_,_,rfl⟩
noncomputable def g227:List SV→Bool:=any227.choose
noncomputable def ja9:FSpec:={ pre:=fun args=>∃ s:ByteArray,args=[.val false [.s s]],res:=fun args=>.val false [.b (g227 args)] }
theorem ok227:FOk Tryz.prog T 227 ja9:=any227.choose_spec.1
theorem any209:∃ g:List SV→Bool,FOk Tryz.prog T 209 { pre:=fun args=>∃ s:ByteArray,args=[.val false [.s s]],res:=fun args=>.val false [.b (g args)] }∧∀ args,(fun args=>∃ s:ByteArray,args=[.val false [.s s]]) args→(∀ a ∈ args,WfSV T a)→(fun _ _=>True) args (g args):=by
 refine fokA (fun _ x=>.val false [.b x]) (post:=fun _ _=>True) (env:=envL [(226,jba),(227,ja9)]) (N:=15) tabT (aa ok226 (aa ok227 ae)) mixed Tryz.func209 rfl Tryz.call209 Tryz.ntmps209 ?_
 rintro args ⟨s,rfl⟩ hwf
 have la:s.size≤maxLen:=arg0 hwf (jdo _)
 refine ⟨by simp,?_⟩
 rw [Tryz.results209]
 repeat' first
  | refine And.intro ?_ ?_
  | (intro h;cases h)
  | (intro h;rw [h])
  | intro h
 all_goals first
  | exact Or.inr rfl
  | exact ⟨_,trivial,rfl,trivial⟩
  | exact ⟨_,rfl⟩
noncomputable def g209:List SV→Bool:=any209.choose
noncomputable def jbd:FSpec:={ pre:=fun args=>∃ s:ByteArray,args=[.val false [.s s]],res:=fun args=>.val false [.b (g209 args)] }
theorem ok209:FOk Tryz.prog T 209 jbd:=any209.choose_spec.1
theorem any210:∃ g:List SV→Bool,FOk Tryz.prog T 210 { pre:=fun args=>∃ a:List (List D),args=[argS 9 a],res:=fun args=>.val false [.b (g args)] }∧∀ args,(fun args=>∃ a:List (List D),args=[argS 9 a]) args→(∀ a ∈ args,WfSV T a)→(fun _ _=>True) args (g args):=by
 refine fokA (fun _ x=>.val false [.b x]) (post:=fun _ _=>True) (env:=envL [(228,yP)]) (N:=18) tabT (aa ok228 ae) mixed Tryz.func210 rfl Tryz.call210 Tryz.ntmps210 ?_
 rintro args ⟨a,rfl⟩ hwf
 have wa:WfD T (.l 9) (.l a):=arg0 hwf (jdo _)
 have la:=wa.len
 refine ⟨by simp,?_⟩
 rw [Tryz.results210]
 repeat' first
  | refine And.intro ?_ ?_
  | (intro h;cases h)
  | (intro h;rw [h])
  | intro h
 all_goals first
  | skip
 refine aj (Q:=_) [0,3] [] (fun n q=>∃ i:Int,q=([argS 9 a,.val false [.i .i64 i]],[])∧0≤i∧i≤a.length∧n=a.length - i.toNat) ?_ ?_
 · exact ⟨rfl,a.length - 0,0,rfl,by omega,by omega,rfl⟩
 rintro n q ⟨i,rfl,h1,h2,h3⟩
 repeat' first
  | refine And.intro ?_ ?_
  | (intro h;cases h)
  | (intro h;rw [h])
  | intro h
 all_goals first
  | (show av _=true;kernel_rfl)
  | (show ba _ _=true;kernel_rfl)
  | exact rfl
  | exact Or.inr rfl
  | exact ⟨_,trivial,rfl,trivial⟩
  | exact ⟨_,_,rfl⟩
  | omega
  | exact jc6 ‹_›
  | (have hi:i < (a.length:Int):=jc6 ‹decide (i < (a.length:Int))=true›
     exact ⟨a.length - (i+1).toNat,by omega,i+1,congrArg (fun z:Int=>((([argS 9 a,.val false [.i .i64 z]],[])):Snap)) (aC h1 hi la),by omega,by omega,rfl⟩)
noncomputable def g210:List SV→Bool:=any210.choose
noncomputable def jbc:FSpec:={ pre:=fun args=>∃ a:List (List D),args=[argS 9 a],res:=fun args=>.val false [.b (g210 args)] }
theorem ok210:FOk Tryz.prog T 210 jbc:=any210.choose_spec.1
theorem any171:∃ g:List SV→Bool,FOk Tryz.prog T 171 { pre:=fun args=>∃ a:List (List D),args=[argS 9 a],res:=fun args=>.val false [.b (g args)] }∧∀ args,(fun args=>∃ a:List (List D),args=[argS 9 a]) args→(∀ a ∈ args,WfSV T a)→(fun _ _=>True) args (g args):=by
 refine fokA (fun _ x=>.val false [.b x]) (post:=fun _ _=>True) (env:=envL [(209,jbd),(37,spIn),(210,jbc)]) (N:=23) tabT (aa ok209 (aa ok37 (aa ok210 ae))) mixed Tryz.func171 rfl Tryz.call171 Tryz.ntmps171 ?_
 rintro args ⟨a,rfl⟩ hwf
 have wa:WfD T (.l 9) (.l a):=arg0 hwf (jdo _)
 have la:=wa.len
 refine ⟨by simp,?_⟩
 rw [Tryz.results171]
 repeat' first
  | refine And.intro ?_ ?_
  | (intro h;cases h)
  | (intro h;rw [h])
  | intro h
 all_goals first
  | skip
 refine aj (Q:=_) [0,3] [] (fun n q=>∃ i:Int,q=([argS 9 a,.val false [.i .i64 i]],[])∧0≤i∧i≤a.length∧n=a.length - i.toNat) ?_ ?_
 · exact ⟨rfl,a.length - 0,0,rfl,by omega,by omega,rfl⟩
 rintro n q ⟨i,rfl,h1,h2,h3⟩
 repeat' first
  | refine And.intro ?_ ?_
  | (intro h;cases h)
  | (intro h;rw [h])
  | intro h
 all_goals first
  | exact rfl
  | exact Or.inr rfl
  | exact ⟨_,trivial,rfl,trivial⟩
  | exact ⟨_,rfl⟩
  | exact ⟨_,_,_,rfl⟩
  | omega
  | exact jc6 ‹_›
  | (have hi:i < (a.length:Int):=jc6 ‹decide (i < (a.length:Int))=true›
     exact ⟨a.length - (i+1).toNat,by omega,i+1,congrArg (fun z:Int=>((([argS 9 a,.val false [.i .i64 z]],[])):Snap)) (aC h1 hi la),by omega,by omega,rfl⟩)
noncomputable def g171:List SV→Bool:=any171.choose
noncomputable def jbf:FSpec:={ pre:=fun args=>∃ a:List (List D),args=[argS 9 a],res:=fun args=>.val false [.b (g171 args)] }
theorem ok171:FOk Tryz.prog T 171 jbf:=any171.choose_spec.1
theorem any211:∃ g:List SV→Bool,FOk Tryz.prog T 211 { pre:=fun args=>∃ a b:List D,WfRow T [.i .i64,.i .i64] a∧WfRow T [.i .i64,.i .i64] b∧args=[argG [.i .i64,.i .i64] a,argG [.i .i64,.i .i64] b],res:=fun args=>.val false [.b (g args)] }∧∀ args,(fun args=>∃ a b:List D,WfRow T [.i .i64,.i .i64] a∧WfRow T [.i .i64,.i .i64] b∧args=[argG [.i .i64,.i .i64] a,argG [.i .i64,.i .i64] b]) args→(∀ a ∈ args,WfSV T a)→(fun _ _=>True) args (g args):=by
 refine fokA (fun _ x=>.val false [.b x]) (post:=fun _ _=>True) (env:=envL []) (N:=24) tabT ae mixed Tryz.func211 rfl Tryz.call211 Tryz.ntmps211 ?_
 rintro args ⟨a,b,wa,wb,rfl⟩ hwf
 refine ⟨by simp,?_⟩
 rw [Tryz.results211]
 repeat' first
  | refine And.intro ?_ ?_
  | (intro h;cases h)
  | (intro h;rw [h])
  | intro h
 all_goals first
  | exact Or.inr rfl
  | exact ⟨_,trivial,rfl,trivial⟩
noncomputable def g211:List SV→Bool:=any211.choose
noncomputable def jbb:FSpec:={ pre:=fun args=>∃ a b:List D,WfRow T [.i .i64,.i .i64] a∧WfRow T [.i .i64,.i .i64] b∧args=[argG [.i .i64,.i .i64] a,argG [.i .i64,.i .i64] b],res:=fun args=>.val false [.b (g211 args)] }
theorem ok211:FOk Tryz.prog T 211 jbb:=any211.choose_spec.1
theorem any172:∃ g:List SV→Bool,FOk Tryz.prog T 172 { pre:=fun args=>∃ a:List (List D),args=[argS 150 a],res:=fun args=>.val false [.b (g args)] }∧∀ args,(fun args=>∃ a:List (List D),args=[argS 150 a]) args→(∀ a ∈ args,WfSV T a)→(fun _ _=>True) args (g args):=by
 refine fokA (fun _ x=>.val false [.b x]) (post:=fun _ _=>True) (env:=envL [(211,jbb)]) (N:=41) tabT (aa ok211 ae) mixed Tryz.func172 rfl Tryz.call172 Tryz.ntmps172 ?_
 rintro args ⟨a,rfl⟩ hwf
 have wa:WfD T (.l 150) (.l a):=arg0 hwf (jdo _)
 have la:=wa.len
 refine ⟨by simp,?_⟩
 rw [Tryz.results172]
 repeat' first
  | refine And.intro ?_ ?_
  | (intro h;cases h)
  | (intro h;rw [h])
  | intro h
 all_goals first
  | skip
 refine aj (Q:=_) [0,3] [] (fun n q=>∃ i:Int,q=([argS 150 a,.val false [.i .i64 i]],[])∧0≤i∧i≤a.length∧n=a.length - i.toNat) ?_ ?_
 · exact ⟨rfl,a.length - 0,0,rfl,by omega,by omega,rfl⟩
 rintro n q ⟨i,rfl,h1,h2,h3⟩
 repeat' first
  | refine And.intro ?_ ?_
  | (intro h;cases h)
  | (intro h;rw [h])
  | intro h
 all_goals first
  | (show av _=true;kernel_rfl)
  | (show ba _ _=true;kernel_rfl)
  | exact rfl
  | exact Or.inr rfl
  | exact ⟨_,trivial,rfl,trivial⟩
  | omega
  | exact jc6 ‹_›
  | (have hi:i < (a.length:Int):=jc6 ‹decide (i < (a.length:Int))=true›
     exact ⟨a.length - (i+1).toNat,by omega,i+1,congrArg (fun z:Int=>((([argS 150 a,.val false [.i .i64 z]],[])):Snap)) (aC h1 hi la),by omega,by omega,rfl⟩)
  | (have hi:i < (a.length:Int):=jc6 ‹decide (i < (a.length:Int))=true›
     have h0:i > 0:=jc6 ‹decide (i > 0)=true›
     have hw:IntKind.i64.wrap (i - 1)=i - 1:=by rw [IntKind.wrap_i64];simp only [maxLen] at la;omega
     have wr:WfRow T [.i .i64,.i .i64] (a.getD i.toNat []):=wa.row rfl (by omega)
     have wq:WfRow T [.i .i64,.i .i64] (a.getD (IntKind.i64.wrap (i - 1)).toNat []):=wa.row rfl (by rw [hw];omega)
     first
      | (rw [hw];omega)
      | exact ⟨_,_,wq,wr,rfl⟩)
noncomputable def g172:List SV→Bool:=any172.choose
noncomputable def jbe:FSpec:={ pre:=fun args=>∃ a:List (List D),args=[argS 150 a],res:=fun args=>.val false [.b (g172 args)] }
theorem ok172:FOk Tryz.prog T 172 jbe:=any172.choose_spec.1
end Go.Proofs.YtdkofgjbbdbglaaGreatDoor.Ab
