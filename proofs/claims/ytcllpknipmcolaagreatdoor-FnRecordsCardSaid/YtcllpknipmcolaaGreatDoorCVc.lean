/- Functions that call themselves, and tables: printed by a program of this -/
import Derived.Test.YtcllpknipmcolaaGreatDoorCVb
namespace Go.Proofs.YtcllpknipmcolaaGreatDoor.Ab
open Go.RowKit
set_option linter.all false
set_option maxRecDepth 100000
set_option maxHeartbeats 1000000
theorem anyS167 (n:Nat) (g167:List SV→Int) (hn:FOk Tryz.prog T 167 { pre:=fun args=>∃ a:List D,WfRow T cV a∧SizeOf.sizeOf a < n∧args=[argG cV a],res:=fun args=>.val false [.i .i64 (g167 args)] }):∃ g:List SV→Int,FOk Tryz.prog T 167 { pre:=fun args=>∃ a:List D,WfRow T cV a∧SizeOf.sizeOf a < n+1∧args=[argG cV a],res:=fun args=>.val false [.i .i64 (g args)] }∧∀ args,(fun args=>∃ a:List D,WfRow T cV a∧SizeOf.sizeOf a < n+1∧args=[argG cV a]) args→(∀ a ∈ args,WfSV T a)→(fun _ _=>True) args (g args):=by
 refine fokA (fun _ x=>.val false [.i .i64 x]) (post:=fun _ _=>True) (env:=envL [(167, { pre:=fun args=>∃ a:List D,WfRow T cV a∧SizeOf.sizeOf a < n∧args=[argG cV a],res:=fun args=>.val false [.i .i64 (g167 args)] }),(94,sp94)]) (N:=22) tabT (aa hn (aa ok94 ae)) mixed Tryz.func167 rfl Tryz.call167 Tryz.ntmps167 ?_
 rintro args ⟨a,wa,hs,rfl⟩ hwf
 refine ⟨by simp,?_⟩
 rw [Tryz.results167]
 have wA:WfD T (.l 57) (.l (a.getD 4 default).rows):=wa.rows (j:=4) rfl
 have la:=wA.len
 repeat' first
  | (refine And.intro ?_ ?_)
  | (intro h;cases h)
  | (intro h;rw [h])
  | (intro h)
 all_goals first
  | skip
 refine am (Q:=_) [1,3,4] [1] (fun n q=>∃ (i z:Int),q=([.ptr 1 1 0,.val false [.i .i64 z],.val false [.i .i64 i]],[(1,(rowC cV a).map fun c=>.val false [c])])∧0≤i∧i≤(a.getD 4 default).rows.length∧n=(a.getD 4 default).rows.length - i.toNat) ?_ ?_
 · exact ⟨rfl,(a.getD 4 default).rows.length - 0,0,0,rfl,by omega,by omega,rfl⟩
 rintro n q ⟨i,z,rfl,h1,h2,h3⟩
 repeat' first
  | (refine And.intro ?_ ?_)
  | (intro h;cases h)
  | (intro h;rw [h])
  | (intro h)
 all_goals first
  | exact rfl
  | exact Or.inr rfl
  | exact ⟨_,trivial,rfl,trivial⟩
  | exact ⟨_,_,rfl⟩
  | omega
  | exact jck ‹_›
  | (have hi:i < ((a.getD 4 default).rows.length:Int):=jck ‹decide (i < ((a.getD 4 default).rows.length:Int))=true›
     exact ⟨(a.getD 4 default).rows.length - (i+1).toNat,by omega,i+1,_,snapN (fun z j=>(([.ptr 1 1 0,.val false [.i .i64 z],.val false [.i .i64 j]],[(1,(rowC cV a).map fun c=>.val false [c])]))) _ h1 hi la,by omega,by omega,rfl⟩)
  | (have hi:i < ((a.getD 4 default).rows.length:Int):=jck ‹decide (i < ((a.getD 4 default).rows.length:Int))=true›
     have wr:WfRow T cV ((a.getD 4 default).rows.getD i.toNat []):=wA.row rfl (by omega)
     first
      | exact ⟨_,wr,jdi (Nat.lt_trans (i8 (by omega)) (eJ (by rw [wa.1];decide))) (jec hs),rfl⟩)
theorem anyZ167:∃ g:List SV→Int,FOk Tryz.prog T 167 { pre:=fun args=>∃ a:List D,WfRow T cV a∧SizeOf.sizeOf a < 0∧args=[argG cV a],res:=fun args=>.val false [.i .i64 (g args)] }:=by
 refine ⟨fun _=>default,fok (env:=envL []) (N:=22) tabT ae mixed Tryz.func167 rfl Tryz.call167 Tryz.ntmps167 ?_⟩
 rintro args ⟨a,wa,hs,rfl⟩ _
 exact absurd hs (jda _)
theorem any167:∃ g:List SV→Int,FOk Tryz.prog T 167 { pre:=fun args=>∃ a:List D,WfRow T cV a∧args=[argG cV a],res:=fun args=>.val false [.i .i64 (g args)] }∧∀ args,(fun args=>∃ a:List D,WfRow T cV a∧args=[argG cV a]) args→(∀ a ∈ args,WfSV T a)→True:=by
 refine jbl (fun _ x=>.val false [.i .i64 x]) (post:=fun _ _=>True) (pre:=fun n args=>∃ a:List D,WfRow T cV a∧SizeOf.sizeOf a < n∧args=[argG cV a]) (fun n=>?_) (fun args ⟨a,wa,h⟩=>⟨SizeOf.sizeOf a+1,a,wa,jdk _,h⟩)
 induction n with
 | zero =>
   obtain ⟨g,hg⟩:=anyZ167
   exact ⟨g,hg,fun _ _ _=>trivial⟩
 | succ n ih =>
   obtain ⟨g,hg,_⟩:=ih
   exact anyS167 n g hg
noncomputable def g167:List SV→Int:=any167.choose
noncomputable def jaA:FSpec:={ pre:=fun args=>∃ a:List D,WfRow T cV a∧args=[argG cV a],res:=fun args=>.val false [.i .i64 (g167 args)] }
theorem ok167:FOk Tryz.prog T 167 jaA:=any167.choose_spec.1
theorem any125:∃ g:List SV→Bool,FOk Tryz.prog T 125 { pre:=fun args=>∃ a:List D,WfRow T cV a∧args=[argG cV a],res:=fun args=>.val false [.b (g args)] }∧∀ args,(fun args=>∃ a:List D,WfRow T cV a∧args=[argG cV a]) args→(∀ a ∈ args,WfSV T a)→True:=by
 refine fokA (fun _ x=>.val false [.b x]) (post:=fun _ _=>True) (env:=envL [(168,jaz),(169,jay),(83,iU)]) (N:=55) tabT (aa ok168 (aa ok169 (aa ok83 ae))) mixed Tryz.func125 rfl Tryz.call125 Tryz.ntmps125 ?_
 rintro args ⟨a,wa,rfl⟩ hwf
 have wA:WfD T (.l 101) (.l (a.getD 6 default).rows):=wa.rows (j:=6) rfl
 have la:=wA.len
 refine ⟨by simp,?_⟩
 rw [Tryz.results125]
 repeat' first
  | (refine And.intro ?_ ?_)
  | (intro h;cases h)
  | (intro h;rw [h])
  | (intro h)
 all_goals first
  | exact Or.inr rfl
  | exact ⟨_,trivial,rfl,trivial⟩
  | exact ⟨_,rfl⟩
  | skip
 refine am (Q:=_) [1,3] [1] (fun n q=>∃ i:Int,q=([.ptr 1 1 0,.val false [.i .i64 i]],[(1,(rowC cV a).map fun c=>.val false [c])])∧0≤i∧i≤(a.getD 6 default).rows.length∧n=(a.getD 6 default).rows.length - i.toNat) ?_ ?_
 · exact ⟨rfl,(a.getD 6 default).rows.length - 0,0,rfl,by omega,by omega,rfl⟩
 rintro n q ⟨i,rfl,h1,h2,h3⟩
 repeat' first
  | (refine And.intro ?_ ?_)
  | (intro h;cases h)
  | (intro h;rw [h])
  | (intro h)
 all_goals first
  | exact Or.inr rfl
  | exact ⟨_,trivial,rfl,trivial⟩
  | omega
  | exact jck ‹_›
  | exact ⟨_,rfl⟩
  | skip
 have hi:i < ((a.getD 6 default).rows.length:Int):=jck ‹decide (i < ((a.getD 6 default).rows.length:Int))=true›
 have wr:WfRow T [.l 3,.l 126] ((a.getD 6 default).rows.getD i.toNat []):=wA.row rfl (by omega)
 have wB:WfD T (.l 3) (.l (((a.getD 6 default).rows.getD i.toNat []).getD 0 default).rows):=wr.rows (j:=0) rfl
 have lb:=wB.len
 refine am (Q:=_) [1,3,4,5] [1,4] (fun n q=>∃ k:Int,q=([.ptr 1 1 0,.val false [.i .i64 i],.ptr 4 1 0,.val false [.i .i64 k]],[(1,(rowC cV a).map fun c=>.val false [c]),(1,(rowC [.l 3,.l 126] ((a.getD 6 default).rows.getD i.toNat [])).map fun c=>.val false [c])])∧0≤k∧k≤(((a.getD 6 default).rows.getD i.toNat []).getD 0 default).rows.length∧n=(((a.getD 6 default).rows.getD i.toNat []).getD 0 default).rows.length - k.toNat) ?_ ?_
 · exact ⟨rfl,(((a.getD 6 default).rows.getD i.toNat []).getD 0 default).rows.length - 0,0,rfl,by omega,by omega,rfl⟩
 rintro m q ⟨k,rfl,k1,k2,k3⟩
 repeat' first
  | (refine And.intro ?_ ?_)
  | (intro h;cases h)
  | (intro h;rw [h])
  | (intro h)
 all_goals first
  | exact rfl
  | exact Or.inr rfl
  | exact ⟨_,trivial,rfl,trivial⟩
  | omega
  | exact jck ‹_›
  | exact ⟨_,rfl⟩
  | exact ⟨(a.getD 6 default).rows.length - (i+1).toNat,by omega,i+1,congrArg (fun z:Int=>(([.ptr 1 1 0,.val false [.i .i64 z]],[(1,(rowC cV a).map fun c=>.val false [c])]):Snap)) (aE h1 hi la),by omega,by omega,rfl⟩
  | (have hk:k < ((((a.getD 6 default).rows.getD i.toNat []).getD 0 default).rows.length:Int):=jck ‹decide (k < ((((a.getD 6 default).rows.getD i.toNat []).getD 0 default).rows.length:Int))=true›
     exact ⟨(((a.getD 6 default).rows.getD i.toNat []).getD 0 default).rows.length - (k+1).toNat,by omega,k+1,congrArg (fun z:Int=>(([.ptr 1 1 0,.val false [.i .i64 i],.ptr 4 1 0,.val false [.i .i64 z]],[(1,(rowC cV a).map fun c=>.val false [c]),(1,(rowC [.l 3,.l 126] ((a.getD 6 default).rows.getD i.toNat [])).map fun c=>.val false [c])]):Snap)) (aE k1 hk lb),by omega,by omega,rfl⟩)
noncomputable def g125:List SV→Bool:=any125.choose
noncomputable def jaC:FSpec:={ pre:=fun args=>∃ a:List D,WfRow T cV a∧args=[argG cV a],res:=fun args=>.val false [.b (g125 args)] }
theorem ok125:FOk Tryz.prog T 125 jaC:=any125.choose_spec.1
theorem anyS124 (n:Nat) (g82:List SV→Bool) (hn:FOk Tryz.prog T 82 { pre:=fun args=>∃ a:List D,WfRow T cV a∧SizeOf.sizeOf a < n∧args=[argG cV a],res:=fun args=>.val false [.b (g82 args)] }):∃ g:List SV→Bool,FOk Tryz.prog T 124 { pre:=fun args=>∃ a:List D,WfRow T cV a∧SizeOf.sizeOf a < n+1∧args=[argG cV a],res:=fun args=>.val false [.b (g args)] }∧∀ args,(fun args=>∃ a:List D,WfRow T cV a∧SizeOf.sizeOf a < n+1∧args=[argG cV a]) args→(∀ a ∈ args,WfSV T a)→(fun _ _=>True) args (g args):=by
 refine fokA (fun _ x=>.val false [.b x]) (post:=fun _ _=>True) (env:=envL [(166,jaB),(82, { pre:=fun args=>∃ a:List D,WfRow T cV a∧SizeOf.sizeOf a < n∧args=[argG cV a],res:=fun args=>.val false [.b (g82 args)] }),(167,jaA)]) (N:=36) tabT (aa ok166 (aa hn (aa ok167 ae))) mixed Tryz.func124 rfl Tryz.call124 Tryz.ntmps124 ?_
 rintro args ⟨a,wa,hs,rfl⟩ hwf
 refine ⟨by simp,?_⟩
 rw [Tryz.results124]
 have wA:WfD T (.l 57) (.l (a.getD 4 default).rows):=wa.rows (j:=4) rfl
 have la:=wA.len
 repeat' first
  | (refine And.intro ?_ ?_)
  | (intro h;cases h)
  | (intro h;rw [h])
  | (intro h)
 all_goals first
  | skip
 refine am (Q:=_) [1,3] [1] (fun n q=>∃ i:Int,q=([.ptr 1 1 0,.val false [.i .i64 i]],[(1,(rowC cV a).map fun c=>.val false [c])])∧0≤i∧i≤(a.getD 4 default).rows.length∧n=(a.getD 4 default).rows.length - i.toNat) ?_ ?_
 · exact ⟨rfl,(a.getD 4 default).rows.length - 0,0,rfl,by omega,by omega,rfl⟩
 rintro n q ⟨i,rfl,h1,h2,h3⟩
 repeat' first
  | (refine And.intro ?_ ?_)
  | (intro h;cases h)
  | (intro h;rw [h])
  | (intro h)
 all_goals first
  | exact rfl
  | exact Or.inr rfl
  | exact ⟨_,trivial,rfl,trivial⟩
  | exact ⟨_,wa,rfl⟩
  | omega
  | exact jck ‹_›
  | (have hi:i < ((a.getD 4 default).rows.length:Int):=jck ‹decide (i < ((a.getD 4 default).rows.length:Int))=true›
     exact ⟨(a.getD 4 default).rows.length - (i+1).toNat,by omega,i+1,congrArg (fun z:Int=>((([.ptr 1 1 0,.val false [.i .i64 z]],[(1,(rowC cV a).map fun c=>.val false [c])])):Snap)) (aE h1 hi la),by omega,by omega,rfl⟩)
  | (have hi:i < ((a.getD 4 default).rows.length:Int):=jck ‹decide (i < ((a.getD 4 default).rows.length:Int))=true›
     have wr:WfRow T cV ((a.getD 4 default).rows.getD i.toNat []):=wA.row rfl (by omega)
     first
      | exact ⟨_,wr,rfl⟩
      | exact ⟨_,wr,jdi (Nat.lt_trans (i8 (by omega)) (eJ (by rw [wa.1];decide))) (jec hs),rfl⟩)
theorem anyS82 (n:Nat) (g124:List SV→Bool) (hn:FOk Tryz.prog T 124 { pre:=fun args=>∃ a:List D,WfRow T cV a∧SizeOf.sizeOf a < n+1∧args=[argG cV a],res:=fun args=>.val false [.b (g124 args)] }):∃ g:List SV→Bool,FOk Tryz.prog T 82 { pre:=fun args=>∃ a:List D,WfRow T cV a∧SizeOf.sizeOf a < n+1∧args=[argG cV a],res:=fun args=>.val false [.b (g args)] }∧∀ args,(∃ a:List D,WfRow T cV a∧SizeOf.sizeOf a < n+1∧args=[argG cV a])→(∀ a ∈ args,WfSV T a)→True:=by
 have hE:gc Tryz.prog T (envL [(83,iU),(123,jaD),(124, { pre:=fun args=>∃ a:List D,WfRow T cV a∧SizeOf.sizeOf a < n+1∧args=[argG cV a],res:=fun args=>.val false [.b (g124 args)] }),(125,jaC),(126,spIn)]):=(aa ok83 (aa ok123 (aa hn (aa ok125 (aa ok126 ae)))))
 refine fokSA (N:=95) (fun _ x=>.val false [.b x]) (post:=fun _ _=>True) tabT Tryz.func82 rfl Tryz.call82 Tryz.ntmps82 ?_
 rintro args ⟨a,wa,hs,rfl⟩ hwf
 refine ⟨by simp,?_⟩
 rw [Tryz.results82]
 clear hwf
 refine Snd.seq tabT hE mixed ?_
 repeat' first
  | (refine And.intro ?_ ?_)
  | (intro h;cases h)
  | (intro h;rw [h])
  | (intro h)
 all_goals first
  | skip
 refine Snd.cut2 tabT hE mixed [1,2] [1] (fun q=>q=([.ptr 1 1 0,.val false [.b false]],[(1,(rowC cV a).map fun c=>.val false [c])])) ?_ ?_
 · repeat' first
    | (refine And.intro ?_ ?_)
    | (intro h;cases h)
    | (intro h;rw [h])
    | (intro h)
   all_goals first
    | exact ⟨_,trivial,rfl,trivial⟩
    | exact rfl
    | exact Or.inr rfl
 rintro q rfl
 refine Snd.cut2 tabT hE mixed [1,2] [1] (fun q=>q=([.ptr 1 1 0,.val false [.b false]],[(1,(rowC cV a).map fun c=>.val false [c])])) ?_ ?_
 · repeat' first
    | (refine And.intro ?_ ?_)
    | (intro h;cases h)
    | (intro h;rw [h])
    | (intro h)
   all_goals first
    | exact ⟨_,trivial,rfl,trivial⟩
    | exact rfl
    | exact Or.inr rfl
    | exact ⟨_,rfl⟩
    | exact ⟨_,_,_,rfl⟩
    | exact ⟨_,wa,hs,rfl⟩
    | exact ⟨_,wa,rfl⟩
 rintro q rfl
 refine Snd.of_awp tabT hE mixed ?_
 repeat' first
  | (refine And.intro ?_ ?_)
  | (intro h;cases h)
  | (intro h;rw [h])
  | (intro h)
 all_goals first
  | exact ⟨_,trivial,rfl,trivial⟩
  | exact Or.inr rfl
theorem anyZ82:∃ g:List SV→Bool,FOk Tryz.prog T 82 { pre:=fun args=>∃ a:List D,WfRow T cV a∧SizeOf.sizeOf a < 0∧args=[argG cV a],res:=fun args=>.val false [.b (g args)] }:=by
 refine ⟨fun _=>default,fok (env:=envL []) (N:=95) tabT ae mixed Tryz.func82 rfl Tryz.call82 Tryz.ntmps82 ?_⟩
 rintro args ⟨a,wa,hs,rfl⟩ _
 exact absurd hs (jda _)
noncomputable def svOk:List SV→Bool
 | [.val _ cs]=>okVal (csD cs)
 | _=>false
theorem okF124:FOk Tryz.prog T 124 { pre:=fun _=>False,res:=fun _=>.none }:=by
 refine fok (env:=envL []) (N:=36) tabT ae mixed Tryz.func124 rfl Tryz.call124 Tryz.ntmps124 ?_
 exact fun args h=>h.elim
theorem okF123:FOk Tryz.prog T 123 { pre:=fun _=>False,res:=fun _=>.none }:=by
 refine fok (env:=envL []) (N:=29) tabT ae mixed Tryz.func123 rfl Tryz.call123 Tryz.ntmps123 ?_
 exact fun args h=>h.elim
theorem okF125:FOk Tryz.prog T 125 { pre:=fun _=>False,res:=fun _=>.none }:=by
 refine fok (env:=envL []) (N:=55) tabT ae mixed Tryz.func125 rfl Tryz.call125 Tryz.ntmps125 ?_
 exact fun args h=>h.elim
theorem zh:FOk Tryz.prog T 82 { pre:=fun args=>∃ a:List D,WfRow T cV a∧(a.getD 5 default).rows.length+(a.getD 6 default).rows.length≤4611686018427387904∧((a.getD 0 default).int=1∨(a.getD 0 default).int=6)∧args=[argG cV a],res:=fun args=>.val false [.b (svOk args)] }:=by
 refine fok (env:=envL [(83,iU),(123, { pre:=fun _=>False,res:=fun _=>.none }),(124, { pre:=fun _=>False,res:=fun _=>.none }),(125, { pre:=fun _=>False,res:=fun _=>.none }),(126,spIn)]) (N:=95) tabT (aa ok83 (aa okF123 (aa okF124 (aa okF125 (aa ok126 ae))))) mixed Tryz.func82 rfl Tryz.call82 Tryz.ntmps82 ?_
 rintro args ⟨a,wa,hl,hk,rfl⟩ hwf
 refine ⟨by simp,?_⟩
 rw [Tryz.results82]
 clear hwf
 obtain ⟨d0,r0,rfl,w0,wa⟩:=wa.cons'
 obtain ⟨d1,r1,rfl,w1,wa⟩:=wa.cons'
 obtain ⟨d2,r2,rfl,w2,wa⟩:=wa.cons'
 obtain ⟨d3,r3,rfl,w3,wa⟩:=wa.cons'
 obtain ⟨d4,r4,rfl,w4,wa⟩:=wa.cons'
 obtain ⟨d5,r5,rfl,w5,wa⟩:=wa.cons'
 obtain ⟨d6,r6,rfl,w6,wa⟩:=wa.cons'
 obtain rfl:=wa.nil'
 obtain ⟨n0,rfl,_⟩:=w0.int'
 obtain ⟨n1,rfl,_⟩:=w1.int'
 obtain ⟨n2,rfl,_⟩:=w2.int'
 obtain ⟨s3,rfl,_⟩:=w3.str'
 obtain ⟨l4,rfl,_⟩:=w4.sl'
 obtain ⟨l5,rfl,_⟩:=w5.sl'
 obtain ⟨l6,rfl,_⟩:=w6.sl'
 clear w0 w1 w2 w3 w4 w5 w6
 have hl:l5.length+l6.length≤4611686018427387904:=hl
 have hk:n0=1∨n0=6:=hk
 rcases hk with rfl|rfl
 all_goals
  repeat' first
   | (refine And.intro ?_ ?_)
   | (intro h;cases h)
   | (intro h;rw [h])
   | (intro h)
 all_goals first
  | exact True.intro
  | exact Or.inr rfl
  | exact ⟨_,rfl⟩
  | exact ⟨_,_,_,rfl⟩
  | (refine resB ?_;show _=okVal [_,_,_,_,_,_,_];simp_all [okVal,inR,CV.d,ofD,IntKind.wrap_i64,jd4,jd3,D.int,D.rows,D.str];done)
  | (refine resB ?_;show _=okVal [_,_,_,_,_,_,_];simp_all [okVal,inR,CV.d,ofD,IntKind.wrap_i64,jd4,jd3,D.int,D.rows,D.str];simp only [← jcR] at *;intros;omega)
theorem any82:∃ g:List SV→Bool,FOk Tryz.prog T 82 { pre:=fun args=>∃ a:List D,WfRow T cV a∧args=[argG cV a],res:=fun args=>.val false [.b (g args)] }∧∀ args,(fun args=>∃ a:List D,WfRow T cV a∧args=[argG cV a]) args→(∀ a ∈ args,WfSV T a)→True:=by
 refine jbl (fun _ x=>.val false [.b x]) (post:=fun _ _=>True) (pre:=fun n args=>∃ a:List D,WfRow T cV a∧SizeOf.sizeOf a < n∧args=[argG cV a]) (fun n=>?_) (fun args ⟨a,wa,h⟩=>⟨SizeOf.sizeOf a+1,a,wa,jdk _,h⟩)
 induction n with
 | zero =>
   obtain ⟨g,hg⟩:=anyZ82
   exact ⟨g,hg,fun _ _ _=>trivial⟩
 | succ n ih =>
   obtain ⟨g,hg,_⟩:=ih
   obtain ⟨g2,hg2,_⟩:=anyS124 n g hg
   exact anyS82 n g2 hg2
theorem both82:∃ g:List SV→Bool,FOk Tryz.prog T 82 { pre:=fun args=>∃ a:List D,WfRow T cV a∧args=[argG cV a],res:=fun args=>.val false [.b (g args)] }∧∀ args,(fun args=>∃ a:List D,WfRow T cV a∧(a.getD 5 default).rows.length+(a.getD 6 default).rows.length≤4611686018427387904∧((a.getD 0 default).int=1∨(a.getD 0 default).int=6)∧args=[argG cV a]) args→g args=svOk args:=joinB (by obtain ⟨g,hg,_⟩:=any82;exact ⟨g,hg⟩) zh
noncomputable def g82:List SV→Bool:=both82.choose
noncomputable def sp82:FSpec:={ pre:=fun args=>∃ a:List D,WfRow T cV a∧args=[argG cV a],res:=fun args=>.val false [.b (g82 args)] }
theorem ok82:FOk Tryz.prog T 82 sp82:=both82.choose_spec.1
theorem xO:∀ args,(fun args=>∃ a:List D,WfRow T cV a∧(a.getD 5 default).rows.length+(a.getD 6 default).rows.length≤4611686018427387904∧((a.getD 0 default).int=1∨(a.getD 0 default).int=6)∧args=[argG cV a]) args→g82 args=svOk args:=both82.choose_spec.2
end Go.Proofs.YtcllpknipmcolaaGreatDoor.Ab
