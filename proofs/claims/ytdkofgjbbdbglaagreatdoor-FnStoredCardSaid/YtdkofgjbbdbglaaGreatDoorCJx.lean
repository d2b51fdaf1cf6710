/- A part. -/
import Derived.Test.YtdkofgjbbdbglaaGreatDoorCJc
import Derived.Test.YtdkofgjbbdbglaaGreatDoorCFe
namespace Go.Proofs.YtdkofgjbbdbglaaGreatDoor.Ab
open Go.RowKit
set_option linter.all false
theorem jcU {s:ByteArray} {B:Nat} (h:s.size≤B) (hB:B≤100000):(⟨#[40]⟩:ByteArray).size+s.size≤maxLen:=by
 show 1+s.size≤maxLen
 simp only [maxLen];omega
theorem jcT {s:ByteArray} {B:Nat} (h:s.size≤B) (hB:B≤100000):((⟨#[40]⟩:ByteArray)++s).size+(⟨#[41]⟩:ByteArray).size≤maxLen:=by
 rw [jdr]
 show 1+s.size+1≤maxLen
 simp only [maxLen];omega
theorem jcS {s:ByteArray} {B:Nat} (h:s.size≤B):((⟨#[40]⟩:ByteArray)++s++⟨#[41]⟩).size≤B+2:=by
 rw [jdr,jdr]
 show 1+s.size+1≤_
 omega
theorem TR.strs {b:Nat} {l:List (List D)} (h:TR b l):∀ x ∈ strsOf l,x.size≤b:=fun x hx=>by
 obtain ⟨r,hr,rfl⟩:=jdO.1 hx
 obtain ⟨t,rfl,ht⟩:=h r hr
 exact ht
theorem ar7 {k:Int} {n:Nat} (h:arOk k n=true) (hk:(k == 7)=true):n=2:=by
 rw [beq_iff_eq] at hk;subst hk;exact uK h (by decide) (by decide) (by decide) (by decide) (by decide) (by decide)
theorem ar9 {k:Int} {n:Nat} (h:arOk k n=true) (hk:(k == 9)=true):n=2:=by
 rw [beq_iff_eq] at hk;subst hk;exact uK h (by decide) (by decide) (by decide) (by decide) (by decide) (by decide)
theorem ar8 {k:Int} {n:Nat} (h:arOk k n=true) (hk:(k == 8)=true):n=3:=wz h (eq_of_beq hk)
theorem ar0 {k:Int} {n:Nat} (h:arOk k n=true) (h1:(k == 1)=false) (h2:(k == 2)=false) (h3:(k == 3)=false) (h4:(k == 4)=false) (h5:(k == 5)=false) (h8:(k == 8)=false):n=2 :=
 uK h (beq_eq_false_iff_ne.1 h1) (beq_eq_false_iff_ne.1 h2) (beq_eq_false_iff_ne.1 h3) (beq_eq_false_iff_ne.1 h4) (beq_eq_false_iff_ne.1 h5) (beq_eq_false_iff_ne.1 h8)
theorem szT {a b m n k:Nat} (ha:a≤m) (hb:b≤n) (h:m+n≤k):a+b≤k:=by omega
theorem szE {a m k:Nat} (ha:a≤m) (h:m≤k):a≤k:=by omega
theorem cat2 {a b:ByteArray} {m n:Nat} (ha:a.size≤m) (hb:b.size≤n):(a++b).size≤m+n:=by rw [jdr];omega
theorem jp (a:Array UInt8):(⟨a⟩:ByteArray).size=a.size:=rfl
theorem aq {rows:List (List D)} {i h n:Int} (hn:1≤n∧n≤256):0≤fh rows i h n∧fh rows i h n < 256:=by
 have:=aP (rows:=rows) (i:=i) (h:=h) hn
 omega
theorem TR.pick {b:Nat} {l:List (List D)} (h:TR b l) (k:Nat):((l.getD k []).getD 0 default).str.size≤b:=by
 refine me (P:=fun r=>(r.getD 0 default).str.size≤b) (jc7 _) (fun r hr=>?_) k
 obtain ⟨t,rfl,ht⟩:=h r hr
 exact ht
theorem kk0:inK .i64 0:=⟨by decide,by decide⟩
theorem kk1:inK .i64 1:=⟨by decide,by decide⟩
theorem kk2:inK .i64 2:=⟨by decide,by decide⟩
theorem kk3:inK .i64 3:=⟨by decide,by decide⟩
theorem kk4:inK .i64 4:=⟨by decide,by decide⟩
theorem kk5:inK .i64 5:=⟨by decide,by decide⟩
theorem kk6:inK .i64 6:=⟨by decide,by decide⟩
theorem kk7:inK .i64 7:=⟨by decide,by decide⟩
theorem kk8:inK .i64 8:=⟨by decide,by decide⟩
theorem kk9:inK .i64 9:=⟨by decide,by decide⟩
theorem oI {l:List (List D)} {k j:Nat} {ds:List D}:(aZ l k j ds).length=l.length:=by simp only [aZ,List.length_set]
theorem jcv {d:Nat} {l:List (List D)} {k:Nat} {x:EL} (h:∀ y ∈ l,ExOk d y) (hk:k < l.length) (hx:ExOk d x.row):∀ y ∈ aZ l k 0 x.row,ExOk d y:=by
 have hr:=ef h hk
 unfold aZ
 refine uS h ?_
 cases d with
 | zero=>exact hr.elim
 | succ d =>
   obtain ⟨z,e,_⟩:=hr
   rw [e]
   exact hx
theorem FOk.no {P:Program} {T:Tab} {f:FuncId} (hcall:∀ args w,(callFunc f args).run P w=.ok (.enter f args) w):FOk P T f { pre:=fun _=>False,res:=fun _=>.none } :=
 ⟨hcall,(fun hb=>by cases hb),fun _ w X args vals a1 a2 a3 hpre=>absurd hpre id,(fun hb=>by cases hb)⟩
section
variable {P:Program} {T:Tab} {f:FuncId} {w:World} {X:Nat→Prop}
theorem RdR.nil_any {e e' : TypeId} {v:Value} (h:RdR T w X (.l e) v (.l [])):RdR T w X (.l e') v (.l []):=by
 generalize hd:D.l []=d at h
 generalize hc:CT.l e=ct at h
 cases h with
 | nil e2 A c g=>exact .nil e' A c g
 | sl e2 ty b o c rows vs h1 h2 h3 h4 h5 h6 h7 h8 =>
   obtain rfl:rows=[]:=by simpa using hd.symm
   exact .nil e' _ c h3
 | _=>cases hd
theorem ArgsR.nil2 {vals:List Value} {x:SV} {e e' : TypeId} (h:ArgsR T w X vals [x,argS e []]):ArgsR T w X vals [x,argS e' []]:=by
 obtain ⟨h1,h2⟩:=h
 refine ⟨h1,fun i a v ha hv=>?_⟩
 match i with
 | 0=>exact h2 0 a v ha hv
 | 1 =>
   obtain rfl:=jc9 ha
   obtain ⟨c,hc,hr⟩:=h2 1 _ v rfl hv
   obtain rfl:CV.sl false e []=c:=by simpa using hc
   have hr:RdR T w X (.l e) v (.l []):=hr
   exact ⟨_,rfl,(show RdR T w X (.l e') v (.l []) from hr.nil_any)⟩
 | i+2=>simp at ha
def nil2 (s:FSpec) (e:TypeId):FSpec where
 pre a:=s.pre a∨∃ x,a=[x,argS 0 []]∧s.pre [x,argS e []]
 res a:=match a with
  | [x,.val false [.sl false 0 []]]=>s.res [x,argS e []]
  | _=>s.res a
theorem FOk.nil2 {s:FSpec} {e:TypeId} (hb:s.bx=false) (he:∀ a x,s.pre a→a ≠ [x,argS 0 []]) (h:FOk P T f s):FOk P T f (nil2 s e):=by
 refine ⟨h.call,(fun hb=>by cases hb),fun _ w X args vals a1 a2 a3 hpre=>?_,(fun hb=>by cases hb)⟩
 rcases hpre with hp|⟨x,rfl,hp⟩
 · have:=h.ok hb w X args vals a1 a2 a3 hp
   have e1:(Ab.nil2 s e).res args=s.res args:=by
    show (match args with|[x,.val false [.sl false 0 []]]=>s.res [x,argS e []]|_=>s.res args)=_
    split
    · rename_i x;exact absurd rfl (he _ x hp)
    · rfl
   rw [e1]
   exact this
 · exact h.ok hb w X _ vals a1 a2.nil2 a3 hp
end
set_option maxRecDepth 100000
set_option maxHeartbeats 2000000
theorem any198 (d B:Nat) (hB:B≤100000) (hd:AnyX Tryz.prog T 158 (preE [.i .i64,.i .i64,.s,.l 144] d) (fun x:ByteArray=>.val false [.s x]) (fun x:ByteArray=>x.size≤B)):AnyX Tryz.prog T 198 (oH [.i .i64,.i .i64,.s,.l 144] d) (fun x:ByteArray=>.val false [.s x]) (fun x:ByteArray=>x.size≤B+2):=by
 obtain ⟨g158,k158,q158⟩:=hd
 obtain ⟨g197,k197,q197⟩:=any197
 refine AnyX.of (⟨#[]⟩) (jc7 _) (fokA (fun _ (x:ByteArray)=>.val false [.s x]) (post:=fun _ (x:ByteArray)=>x.size≤B+2) (env:=envL [(158, { pre:=preE [.i .i64,.i .i64,.s,.l 144] d,res:=fun a=>(fun x:ByteArray=>.val false [.s x]) (g158 a) }),(197, { pre:=fun a=>∃ r:List D,a=[argG [.i .i64,.i .i64,.s,.l 144] r],res:=fun a=>(fun x:Int=>.val false [.i .i64 x]) (g197 a) })]) (N:=16) tabT (aa k158 (aa k197 ae)) mixed Tryz.func198 rfl Tryz.call198 Tryz.ntmps198 ?_)
 rintro args ⟨r,n,hr,rfl⟩ hwf
 refine ⟨by simp,?_⟩
 clear hwf
 rw [Tryz.results198]
 repeat' first
  | refine And.intro ?_ ?_
  | (intro h;simp only [reduceCtorEq] at h;done)
  | (intro h;rw [h])
  | intro h
 all_goals first
  | exact Or.inr rfl
  | exact ⟨_,hr,rfl⟩
  | exact ⟨_,rfl⟩
  | exact jcU (q158 _) hB
  | exact jcT (q158 _) hB
  | exact ⟨_,jcS (q158 _),rfl,True.intro⟩
  | exact ⟨_,jdd (q158 _) (by omega),rfl,True.intro⟩
theorem any196 (d B:Nat) (hB:B≤100000) (hd:AnyX Tryz.prog T 158 (preE [.i .i64,.i .i64,.s,.l 144] d) (fun x:ByteArray=>.val false [.s x]) (fun x:ByteArray=>x.size≤B)):AnyX Tryz.prog T 196 (jbK 144 d) (fun x:ByteArray=>.val false [.s x]) (fun x:ByteArray=>x.size≤4 * (B+2)):=by
 obtain ⟨g158,k158,q158⟩:=hd
 refine AnyX.of (⟨#[]⟩) (jc7 _) (fokA (fun _ (x:ByteArray)=>.val false [.s x]) (post:=fun _ (x:ByteArray)=>x.size≤4 * (B+2)) (env:=envL [(158, { pre:=preE [.i .i64,.i .i64,.s,.l 144] d,res:=fun a=>(fun x:ByteArray=>.val false [.s x]) (g158 a) }),(62,spJoin)]) (N:=22) tabT (aa k158 (aa ok62 ae)) mixed Tryz.func196 rfl Tryz.call196 Tryz.ntmps196 ?_)
 rintro args ⟨l,⟨hl,hall⟩,rfl⟩ hwf
 refine ⟨by simp,?_⟩
 clear hwf
 have hlm:l.length≤1048576:=jdd hl (by decide)
 rw [Tryz.results196]
 repeat' first
  | refine And.intro ?_ ?_
  | (intro h;simp only [reduceCtorEq] at h;done)
  | (intro h;rw [h])
  | intro h
 all_goals first
  | skip
 refine aj (Q:=_) [0,3,4] [] (fun n st=>∃ (i:Nat) (o:List (List D)),st=([argS 144 l,.val false [.sl true 9 o],.val false [.i .i64 (i:Int)]],[])∧i≤l.length∧TR B o∧o.length=i∧n=l.length - i) ?_ ?_
 · exact ⟨rfl,l.length,0,_,rfl,jc7 _,TR.nil,rfl,rfl⟩
 rintro n st ⟨i,o,rfl,hle,hT,hol,rfl⟩
 repeat' first
  | refine And.intro ?_ ?_
  | (intro h;simp only [reduceCtorEq] at h;done)
  | (intro h;rw [h])
  | intro h
 all_goals first
  | exact Or.inr rfl
  | with_reducible exact jdk _
  | (have hi:i < l.length:=ltN' (by with_reducible assumption)
     first
      | with_reducible exact jc6 (by with_reducible assumption)
      | exact ⟨_,ef hall (by omega),rfl⟩
      | (show o.length+1≤maxLen;simp only [maxLen];omega)
      | (show (o.length+1) * 16≤140737488355328;omega)
      | (refine ⟨l.length - (i+1),by omega,i+1,_,congrArg (fun z:Int=>(([argS 144 l,.val false [.sl true 9 _],.val false [.i .i64 z]],[]):Snap)) (dG hi hlm),by omega,hT.add (q158 _),by rw [jc8,hol];rfl,rfl⟩)
      | (show aX _ _;exact rfl))
  | (exact ⟨_,_,(by omega),jdd (df (hT.strs)) (by simp only [strsOf,jdi];rw [hol];show _ * (B+2)≤_;exact jdd (jdy _ (show i≤4 by omega)) (by omega)),rfl⟩)
  | (exact ⟨_,jdd (df (hT.strs)) (by simp only [strsOf,jdi];rw [hol];show _ * (B+2)≤_;exact jdy _ (show i≤4 by omega)),rfl,True.intro⟩)
theorem jS (d B:Nat) (hB:B≤100000) (hd:AnyX Tryz.prog T 158 (preE [.i .i64,.i .i64,.s,.l 144] d) (fun x:ByteArray=>.val false [.s x]) (fun x:ByteArray=>x.size≤B)):AnyX Tryz.prog T 158 (preE [.i .i64,.i .i64,.s,.l 144] (d+1)) (fun x:ByteArray=>.val false [.s x]) (fun x:ByteArray=>x.size≤4 * B+64):=by
 obtain ⟨g196,k196,q196⟩:=any196 d B hB hd
 obtain ⟨g198,k198,q198⟩:=any198 d B hB hd
 obtain ⟨g158,k158,q158⟩:=hd
 obtain ⟨g197,k197,q197⟩:=any197
 obtain ⟨g199,k199,q199⟩:=any199
 refine AnyX.of (⟨#[]⟩) (jc7 _) (fokA (fun _ (x:ByteArray)=>.val false [.s x]) (post:=fun _ (x:ByteArray)=>x.size≤4 * B+64) (env:=envL [(35,cu),(196, { pre:=jbK 144 d,res:=fun a=>(fun x:ByteArray=>.val false [.s x]) (g196 a) }),(158, { pre:=preE [.i .i64,.i .i64,.s,.l 144] d,res:=fun a=>(fun x:ByteArray=>.val false [.s x]) (g158 a) }),(197, { pre:=fun a=>∃ r:List D,a=[argG [.i .i64,.i .i64,.s,.l 144] r],res:=fun a=>(fun x:Int=>.val false [.i .i64 x]) (g197 a) }),(198, { pre:=oH [.i .i64,.i .i64,.s,.l 144] d,res:=fun a=>(fun x:ByteArray=>.val false [.s x]) (g198 a) }),(199, { pre:=fun a=>∃ n:Int,a=[.val false [.i .i64 n]],res:=fun a=>(fun x:ByteArray=>.val false [.s x]) (g199 a) })]) (N:=124) tabT (aa ok35 (aa k196 (aa k158 (aa k197 (aa k198 (aa k199 ae)))))) mixed Tryz.func158 rfl Tryz.call158 Tryz.ntmps158 ?_)
 rintro args ⟨r,hr,rfl⟩ hwf
 refine ⟨by simp,?_⟩
 clear hwf
 obtain ⟨hl,hall,har,hts⟩:=hr.args
 have hlm:(r.getD 3 default).rows.length≤1048576:=jdd hl (by decide)
 have hnum:=hr.num
 rw [Tryz.results158]
 repeat' first
  | refine And.intro ?_ ?_
  | (intro h;simp only [reduceCtorEq] at h;done)
  | (intro h;rw [h])
  | intro h
 all_goals first
  | (show av _=true;kernel_rfl)
  | (show ba _ _=true;kernel_rfl)
  | exact Or.inr rfl
  | exact ⟨_,rfl⟩
  | exact ⟨_,⟨hl,hall⟩,rfl⟩
  | decide
  | (have e:(r.getD 3 default).rows.length=2:=by first|exact ar7 har (by with_reducible assumption)|exact ar9 har (by with_reducible assumption)|exact ar0 har (by with_reducible assumption) (by with_reducible assumption) (by with_reducible assumption) (by with_reducible assumption) (by with_reducible assumption) (by with_reducible assumption)
     first|(show (0:Int) < (((r.getD 3 default).rows.length:Nat):Int);omega)|(show Int.toNat 0 < (r.getD 3 default).rows.length;rw [e];decide)|exact ⟨_,ef hall (by show Int.toNat 0 < (r.getD 3 default).rows.length;rw [e];decide),rfl⟩|exact ⟨_,_,ef hall (by show Int.toNat 0 < (r.getD 3 default).rows.length;rw [e];decide),rfl⟩|(show (1:Int) < (((r.getD 3 default).rows.length:Nat):Int);omega)|(show Int.toNat 1 < (r.getD 3 default).rows.length;rw [e];decide)|exact ⟨_,ef hall (by show Int.toNat 1 < (r.getD 3 default).rows.length;rw [e];decide),rfl⟩|exact ⟨_,_,ef hall (by show Int.toNat 1 < (r.getD 3 default).rows.length;rw [e];decide),rfl⟩)
  | (have e:(r.getD 3 default).rows.length=3:=by first|exact ar8 har (by with_reducible assumption)
     first|(show (0:Int) < (((r.getD 3 default).rows.length:Nat):Int);omega)|(show Int.toNat 0 < (r.getD 3 default).rows.length;rw [e];decide)|exact ⟨_,ef hall (by show Int.toNat 0 < (r.getD 3 default).rows.length;rw [e];decide),rfl⟩|exact ⟨_,_,ef hall (by show Int.toNat 0 < (r.getD 3 default).rows.length;rw [e];decide),rfl⟩|(show (1:Int) < (((r.getD 3 default).rows.length:Nat):Int);omega)|(show Int.toNat 1 < (r.getD 3 default).rows.length;rw [e];decide)|exact ⟨_,ef hall (by show Int.toNat 1 < (r.getD 3 default).rows.length;rw [e];decide),rfl⟩|exact ⟨_,_,ef hall (by show Int.toNat 1 < (r.getD 3 default).rows.length;rw [e];decide),rfl⟩|(show (2:Int) < (((r.getD 3 default).rows.length:Nat):Int);omega)|(show Int.toNat 2 < (r.getD 3 default).rows.length;rw [e];decide)|exact ⟨_,ef hall (by show Int.toNat 2 < (r.getD 3 default).rows.length;rw [e];decide),rfl⟩|exact ⟨_,_,ef hall (by show Int.toNat 2 < (r.getD 3 default).rows.length;rw [e];decide),rfl⟩)
  | ((with_reducible apply szT)
     · repeat (first|(with_reducible apply cat2)|exact q158 _|exact q196 _|exact q198 _|exact q199 _|exact hts|exact ll hnum|exact jdm _)
     · repeat (first|(with_reducible apply cat2)|exact q158 _|exact q196 _|exact q198 _|exact q199 _|exact hts|exact ll hnum|exact jdm _)
     · (try simp only [jp,jdE,jdl,jdu,maxLen,Nat.reduceAdd]);omega)
  | (refine ⟨_,?_,rfl,True.intro⟩
     apply szE
     · repeat (first|(with_reducible apply cat2)|exact q158 _|exact q196 _|exact q198 _|exact q199 _|exact hts|exact ll hnum|exact jdm _)
     · (try simp only [jp,jdE,jdl,jdu,Nat.reduceAdd]);omega)
theorem wM:AnyX Tryz.prog T 158 (preE [.i .i64,.i .i64,.s,.l 144] 0) (fun x:ByteArray=>.val false [.s x]) (fun x:ByteArray=>x.size≤0):=AnyX.none (⟨#[]⟩) (jdm _) Tryz.call158 (by rintro a ⟨r,hr,_⟩;exact hr.elim)
theorem wL:AnyX Tryz.prog T 158 (preE [.i .i64,.i .i64,.s,.l 144] 1) (fun x:ByteArray=>.val false [.s x]) (fun x:ByteArray=>x.size≤64):=jS 0 0 (by decide) wM
theorem wK:AnyX Tryz.prog T 158 (preE [.i .i64,.i .i64,.s,.l 144] 2) (fun x:ByteArray=>.val false [.s x]) (fun x:ByteArray=>x.size≤320):=jS 1 64 (by decide) wL
theorem wJ:AnyX Tryz.prog T 158 (preE [.i .i64,.i .i64,.s,.l 144] 3) (fun x:ByteArray=>.val false [.s x]) (fun x:ByteArray=>x.size≤1344):=jS 2 320 (by decide) wK
theorem wI:AnyX Tryz.prog T 158 (preE [.i .i64,.i .i64,.s,.l 144] 4) (fun x:ByteArray=>.val false [.s x]) (fun x:ByteArray=>x.size≤5440):=jS 3 1344 (by decide) wJ
theorem wH:AnyX Tryz.prog T 158 (preE [.i .i64,.i .i64,.s,.l 144] 5) (fun x:ByteArray=>.val false [.s x]) (fun x:ByteArray=>x.size≤21824):=jS 4 5440 (by decide) wI
theorem any109:AnyX Tryz.prog T 109 (preE [.i .i64,.i .i64,.s,.l 144] 5) (fun x:ByteArray=>.val false [.s x]) (fun x:ByteArray=>x.size≤21824):=by
 obtain ⟨g158,k158,q158⟩:=wH
 obtain ⟨g157,k157,q157⟩:=any157 5
 refine AnyX.of (⟨#[]⟩) (jc7 _) (fokA (fun _ (x:ByteArray)=>.val false [.s x]) (post:=fun _ (x:ByteArray)=>x.size≤21824) (env:=envL [(157, { pre:=preE [.i .i64,.i .i64,.s,.l 144] 5,res:=fun a=>(fun x:Bool=>.val false [.b x]) (g157 a) }),(158, { pre:=preE [.i .i64,.i .i64,.s,.l 144] 5,res:=fun a=>(fun x:ByteArray=>.val false [.s x]) (g158 a) })]) (N:=8) tabT (aa k157 (aa k158 ae)) mixed Tryz.func109 rfl Tryz.call109 Tryz.ntmps109 ?_)
 rintro args ⟨r,hr,rfl⟩ hwf
 refine ⟨by simp,?_⟩
 clear hwf
 rw [Tryz.results109]
 repeat' first
  | refine And.intro ?_ ?_
  | (intro h;simp only [reduceCtorEq] at h;done)
  | (intro h;rw [h])
  | intro h
 all_goals first
  | exact Or.inr rfl
  | exact ⟨_,hr,rfl⟩
  | exact ⟨_,(by decide),rfl,True.intro⟩
  | exact ⟨_,q158 _,rfl,True.intro⟩
end Go.Proofs.YtdkofgjbbdbglaaGreatDoor.Ab
