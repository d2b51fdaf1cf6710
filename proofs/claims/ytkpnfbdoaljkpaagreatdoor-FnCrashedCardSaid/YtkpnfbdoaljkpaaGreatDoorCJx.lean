/- Sizes of texts that are put together. No program in -/
import Derived.Test.YtkpnfbdoaljkpaaGreatDoorCJc
import Derived.Test.YtkpnfbdoaljkpaaGreatDoorCFe
namespace Go.Proofs.YtkpnfbdoaljkpaaGreatDoor.Ab
open Go.RowKit
set_option linter.all false
theorem jaH {s:ByteArray} {B:Nat} (h:s.size≤B) (hB:B≤100000):(⟨#[40]⟩:ByteArray).size+s.size≤maxLen:=by
 show 1+s.size≤maxLen
 simp only [maxLen];omega
theorem jaG {s:ByteArray} {B:Nat} (h:s.size≤B) (hB:B≤100000):((⟨#[40]⟩:ByteArray)++s).size+(⟨#[41]⟩:ByteArray).size≤maxLen:=by
 rw [jbe]
 show 1+s.size+1≤maxLen
 simp only [maxLen];omega
theorem jaF {s:ByteArray} {B:Nat} (h:s.size≤B):((⟨#[40]⟩:ByteArray)++s++⟨#[41]⟩).size≤B+2:=by
 rw [jbe,jbe]
 show 1+s.size+1≤_
 omega
theorem TR.strs {b:Nat} {l:List (List D)} (h:TR b l):∀ x ∈ strsOf l,x.size≤b:=fun x hx=>by
 obtain ⟨r,hr,rfl⟩:=jbB.1 hx
 obtain ⟨t,rfl,ht⟩:=h r hr
 exact ht
theorem ar7 {k:Int} {n:Nat} (h:arOk k n=true) (hk:(k == 7)=true):n=2:=by
 rw [beq_iff_eq] at hk;subst hk;exact s6 h (by decide) (by decide) (by decide) (by decide) (by decide) (by decide)
theorem ar9 {k:Int} {n:Nat} (h:arOk k n=true) (hk:(k == 9)=true):n=2:=by
 rw [beq_iff_eq] at hk;subst hk;exact s6 h (by decide) (by decide) (by decide) (by decide) (by decide) (by decide)
theorem ar8 {k:Int} {n:Nat} (h:arOk k n=true) (hk:(k == 8)=true):n=3:=ux h (eq_of_beq hk)
theorem ar0 {k:Int} {n:Nat} (h:arOk k n=true) (h1:(k == 1)=false) (h2:(k == 2)=false) (h3:(k == 3)=false) (h4:(k == 4)=false) (h5:(k == 5)=false) (h8:(k == 8)=false):n=2 :=
 s6 h (beq_eq_false_iff_ne.1 h1) (beq_eq_false_iff_ne.1 h2) (beq_eq_false_iff_ne.1 h3) (beq_eq_false_iff_ne.1 h4) (beq_eq_false_iff_ne.1 h5) (beq_eq_false_iff_ne.1 h8)
theorem szT {a b m n k:Nat} (ha:a≤m) (hb:b≤n) (h:m+n≤k):a+b≤k:=by omega
theorem szE {a m k:Nat} (ha:a≤m) (h:m≤k):a≤k:=by omega
theorem cat2 {a b:ByteArray} {m n:Nat} (ha:a.size≤m) (hb:b.size≤n):(a++b).size≤m+n:=by rw [jbe];omega
theorem iG (a:Array UInt8):(⟨a⟩:ByteArray).size=a.size:=rfl
theorem av {rows:List (List D)} {i h n:Int} (hn:1≤n∧n≤256):0≤eJ rows i h n∧eJ rows i h n < 256:=by
 have:=aN (rows:=rows) (i:=i) (h:=h) hn
 omega
theorem TR.pick {b:Nat} {l:List (List D)} (h:TR b l) (k:Nat):((l.getD k []).getD 0 default).str.size≤b:=by
 refine kZ (P:=fun r=>(r.getD 0 default).str.size≤b) (jaU _) (fun r hr=>?_) k
 obtain ⟨t,rfl,ht⟩:=h r hr
 exact ht
theorem kk0:inK .i64 0:=⟨by decide,by decide⟩
theorem kk1:inK .i64 1:=⟨by decide,by decide⟩
theorem kk2:inK .i64 2:=⟨by decide,by decide⟩
theorem kk3:inK .i64 3:=⟨by decide,by decide⟩
theorem kk4:inK .i64 4:=⟨by decide,by decide⟩
theorem kk5:inK .i64 5:=⟨by decide,by decide⟩
theorem kk6:inK .i64 6:=⟨by decide,by decide⟩
theorem kk7:inK .i64 7:=⟨by decide,by decide⟩
theorem kk8:inK .i64 8:=⟨by decide,by decide⟩
theorem kk9:inK .i64 9:=⟨by decide,by decide⟩
theorem rA {l:List (List D)} {k j:Nat} {ds:List D}:(bf l k j ds).length=l.length:=by simp only [bf,List.length_set]
theorem jam {d:Nat} {l:List (List D)} {k:Nat} {x:EL} (h:∀ y ∈ l,ExOk d y) (hk:k < l.length) (hx:ExOk d x.row):∀ y ∈ bf l k 0 x.row,ExOk d y:=by
 have hr:=di h hk
 unfold bf
 refine xP h ?_
 cases d with
 | zero=>exact hr.elim
 | succ d =>
   obtain ⟨z,e,_⟩:=hr
   rw [e]
   exact hx
theorem FOk.no {P:Program} {T:Tab} {f:FuncId} (hcall:∀ args w,(callFunc f args).run P w=.ok (.enter f args) w):FOk P T f { pre:=fun _=>False,res:=fun _=>.none } :=
 ⟨hcall,(fun hb=>by cases hb),fun _ w X args vals a1 a2 a3 hpre=>absurd hpre id,(fun hb=>by cases hb)⟩
section
variable {P:Program} {T:Tab} {f:FuncId} {w:World} {X:Nat→Prop}
theorem RdR.nil_any {e e' : TypeId} {v:Value} (h:RdR T w X (.l e) v (.l [])):RdR T w X (.l e') v (.l []):=by
 generalize hd:D.l []=d at h
 generalize hc:CT.l e=ct at h
 cases h with
 | nil e2 A c g=>exact .nil e' A c g
 | sl e2 ty b o c rows vs h1 h2 h3 h4 h5 h6 h7 h8 =>
   obtain rfl:rows=[]:=by simpa using hd.symm
   exact .nil e' _ c h3
 | _=>cases hd
theorem ArgsR.nil2 {vals:List Value} {x:SV} {e e' : TypeId} (h:ArgsR T w X vals [x,argS e []]):ArgsR T w X vals [x,argS e' []]:=by
 obtain ⟨h1,h2⟩:=h
 refine ⟨h1,fun i a v ha hv=>?_⟩
 match i with
 | 0=>exact h2 0 a v ha hv
 | 1 =>
   obtain rfl:=jaW ha
   obtain ⟨c,hc,hr⟩:=h2 1 _ v rfl hv
   obtain rfl:CV.sl false e []=c:=by simpa using hc
   have hr:RdR T w X (.l e) v (.l []):=hr
   exact ⟨_,rfl,(show RdR T w X (.l e') v (.l []) from hr.nil_any)⟩
 | i+2=>simp at ha
def nil2 (s:FSpec) (e:TypeId):FSpec where
 pre a:=s.pre a∨∃ x,a=[x,argS 0 []]∧s.pre [x,argS e []]
 res a:=match a with
  | [x,.val false [.sl false 0 []]]=>s.res [x,argS e []]
  | _=>s.res a
theorem FOk.nil2 {s:FSpec} {e:TypeId} (hb:s.bx=false) (he:∀ a x,s.pre a→a ≠ [x,argS 0 []]) (h:FOk P T f s):FOk P T f (nil2 s e):=by
 refine ⟨h.call,(fun hb=>by cases hb),fun _ w X args vals a1 a2 a3 hpre=>?_,(fun hb=>by cases hb)⟩
 rcases hpre with hp|⟨x,rfl,hp⟩
 · have:=h.ok hb w X args vals a1 a2 a3 hp
   have e1:(Ab.nil2 s e).res args=s.res args:=by
    show (match args with|[x,.val false [.sl false 0 []]]=>s.res [x,argS e []]|_=>s.res args)=_
    split
    · rename_i x;exact absurd rfl (he _ x hp)
    · rfl
   rw [e1]
   exact this
 · exact h.ok hb w X _ vals a1 a2.nil2 a3 hp
end
end Go.Proofs.YtkpnfbdoaljkpaaGreatDoor.Ab
namespace Go.Proofs.YtkpnfbdoaljkpaaGreatDoor.Ab
open Go.RowKit
set_option linter.all false
set_option maxRecDepth 100000
set_option maxHeartbeats 2000000
theorem any264 (d B:Nat) (hB:B≤100000) (hd:AnyX Tryz.prog T 241 (preE [.i .i64,.i .i64,.s,.l 199] d) (fun x:ByteArray=>.val false [.s x]) (fun x:ByteArray=>x.size≤B)):AnyX Tryz.prog T 264 (nD [.i .i64,.i .i64,.s,.l 199] d) (fun x:ByteArray=>.val false [.s x]) (fun x:ByteArray=>x.size≤B+2):=by
 obtain ⟨g241,k241,q241⟩:=hd
 obtain ⟨g263,k263,q263⟩:=any263
 refine AnyX.of (⟨#[]⟩) (jaU _) (fokA (fun _ (x:ByteArray)=>.val false [.s x]) (post:=fun _ (x:ByteArray)=>x.size≤B+2) (env:=envL [(241, { pre:=preE [.i .i64,.i .i64,.s,.l 199] d,res:=fun a=>(fun x:ByteArray=>.val false [.s x]) (g241 a) }),(263, { pre:=fun a=>∃ r:List D,a=[argG [.i .i64,.i .i64,.s,.l 199] r],res:=fun a=>(fun x:Int=>.val false [.i .i64 x]) (g263 a) })]) (N:=16) tabT (aa k241 (aa k263 ae)) mixed Tryz.func264 rfl Tryz.call264 Tryz.ntmps264 ?_)
 rintro args ⟨r,n,hr,rfl⟩ hwf
 refine ⟨by simp,?_⟩
 clear hwf
 rw [Tryz.results264]
 repeat' first
  | (refine And.intro ?_ ?_)
  | (intro h;simp only [reduceCtorEq] at h;done)
  | (intro h;rw [h])
  | (intro h)
 all_goals first
  | (show ac _=true;kernel_rfl)|(show aj _ _=true;kernel_rfl)|exact True.intro|exact Or.inr rfl|exact Or.inl rfl
  | exact ⟨_,hr,rfl⟩
  | exact ⟨_,rfl⟩
  | exact jaH (q241 _) hB
  | exact jaG (q241 _) hB
  | exact ⟨_,jaF (q241 _),rfl,True.intro⟩
  | exact ⟨_,ja0 (q241 _) (by omega),rfl,True.intro⟩
  | skip
theorem any262 (d B:Nat) (hB:B≤100000) (hd:AnyX Tryz.prog T 241 (preE [.i .i64,.i .i64,.s,.l 199] d) (fun x:ByteArray=>.val false [.s x]) (fun x:ByteArray=>x.size≤B)):AnyX Tryz.prog T 262 (zy 199 d) (fun x:ByteArray=>.val false [.s x]) (fun x:ByteArray=>x.size≤4 * (B+2)):=by
 obtain ⟨g241,k241,q241⟩:=hd
 refine AnyX.of (⟨#[]⟩) (jaU _) (fokA (fun _ (x:ByteArray)=>.val false [.s x]) (post:=fun _ (x:ByteArray)=>x.size≤4 * (B+2)) (env:=envL [(241, { pre:=preE [.i .i64,.i .i64,.s,.l 199] d,res:=fun a=>(fun x:ByteArray=>.val false [.s x]) (g241 a) }),(124,dB)]) (N:=22) tabT (aa k241 (aa ok124 ae)) mixed Tryz.func262 rfl Tryz.call262 Tryz.ntmps262 ?_)
 rintro args ⟨l,⟨hl,hall⟩,rfl⟩ hwf
 refine ⟨by simp,?_⟩
 clear hwf
 have hlm:l.length≤1048576:=ja0 hl (by decide)
 rw [Tryz.results262]
 repeat' first
  | (refine And.intro ?_ ?_)
  | (intro h;simp only [reduceCtorEq] at h;done)
  | (intro h;rw [h])
  | (intro h)
 all_goals first
  | (show ac _=true;kernel_rfl)|(show aj _ _=true;kernel_rfl)|exact True.intro|exact Or.inr rfl|exact Or.inl rfl
  | skip
 refine ar (Q:=_) [0,3,4] [] (fun n st=>∃ (i:Nat) (o:List (List D)),st=([argS 199 l,.val false [.sl true 9 o],.val false [.i .i64 (i:Int)]],[])∧i≤l.length∧TR B o∧o.length=i∧n=l.length - i) ?_ ?_
 · exact ⟨rfl,l.length,0,_,rfl,jaU _,TR.nil,rfl,rfl⟩
 rintro n st ⟨i,o,rfl,hle,hT,hol,rfl⟩
 repeat' first
  | (refine And.intro ?_ ?_)
  | (intro h;simp only [reduceCtorEq] at h;done)
  | (intro h;rw [h])
  | (intro h)
 all_goals first
  | (show ac _=true;kernel_rfl)|(show aj _ _=true;kernel_rfl)|exact True.intro|exact Or.inr rfl|exact Or.inl rfl
  | with_reducible exact ja7 _
  | (have hi:i < l.length:=ltN' (by with_reducible assumption)
     first
      | with_reducible exact jaT (by with_reducible assumption)
      | (show (Int.toNat (i:Int)) < _;rw [jbf];exact hi)
      | (show (i:Int) < _;omega)
      | exact ⟨_,di hall (by omega),rfl⟩
      | (show o.length+1≤maxLen;simp only [maxLen];omega)
      | (show (o.length+1) * 16≤140737488355328;omega)
      | (exact ⟨_,_,(by omega),ja0 (cp (hT.strs)) (by simp only [strsOf,ja5];rw [hol];show _ * (B+2)≤_;exact ja0 (jbl _ (show i≤4 by omega)) (by omega)),rfl⟩)
      | (exact ⟨_,ja0 (cp (hT.strs)) (by simp only [strsOf,ja5];rw [hol];show _ * (B+2)≤_;exact jbl _ (show i≤4 by omega)),rfl,True.intro⟩)
      | (refine ⟨l.length - (i+1),by omega,i+1,_,congrArg (fun z:Int=>(([argS 199 l,.val false [.sl true 9 _],.val false [.i .i64 z]],[]):Snap)) (bU hi hlm),by omega,hT.add (q241 _),by rw [jaV,hol];rfl,rfl⟩)
      | (show aL _ _;exact rfl))
  | exact ⟨_,di hall (by omega),rfl⟩
  | (show o.length+1≤maxLen;simp only [maxLen];omega)
  | (show (o.length+1) * 16≤140737488355328;omega)
  | (exact ⟨_,_,(by omega),ja0 (cp (hT.strs)) (by simp only [strsOf,ja5];rw [hol];show _ * (B+2)≤_;exact ja0 (jbl _ (show i≤4 by omega)) (by omega)),rfl⟩)
  | (exact ⟨_,ja0 (cp (hT.strs)) (by simp only [strsOf,ja5];rw [hol];show _ * (B+2)≤_;exact jbl _ (show i≤4 by omega)),rfl,True.intro⟩)
  | (refine ⟨l.length - (i+1),by omega,i+1,_,congrArg (fun z:Int=>(([argS 199 l,.val false [.sl true 9 _],.val false [.i .i64 z]],[]):Snap)) (bU hi hlm),by omega,hT.add (q241 _),by rw [jaV,hol];rfl,rfl⟩)
  | (show aL _ _;exact rfl)
  | skip
theorem jc (d B:Nat) (hB:B≤100000) (hd:AnyX Tryz.prog T 241 (preE [.i .i64,.i .i64,.s,.l 199] d) (fun x:ByteArray=>.val false [.s x]) (fun x:ByteArray=>x.size≤B)):AnyX Tryz.prog T 241 (preE [.i .i64,.i .i64,.s,.l 199] (d+1)) (fun x:ByteArray=>.val false [.s x]) (fun x:ByteArray=>x.size≤4 * B+64):=by
 obtain ⟨g262,k262,q262⟩:=any262 d B hB hd
 obtain ⟨g264,k264,q264⟩:=any264 d B hB hd
 obtain ⟨g241,k241,q241⟩:=hd
 obtain ⟨g263,k263,q263⟩:=any263
 obtain ⟨g265,k265,q265⟩:=any265
 refine AnyX.of (⟨#[]⟩) (jaU _) (fokA (fun _ (x:ByteArray)=>.val false [.s x]) (post:=fun _ (x:ByteArray)=>x.size≤4 * B+64) (env:=envL [(89,cY),(262, { pre:=zy 199 d,res:=fun a=>(fun x:ByteArray=>.val false [.s x]) (g262 a) }),(241, { pre:=preE [.i .i64,.i .i64,.s,.l 199] d,res:=fun a=>(fun x:ByteArray=>.val false [.s x]) (g241 a) }),(263, { pre:=fun a=>∃ r:List D,a=[argG [.i .i64,.i .i64,.s,.l 199] r],res:=fun a=>(fun x:Int=>.val false [.i .i64 x]) (g263 a) }),(264, { pre:=nD [.i .i64,.i .i64,.s,.l 199] d,res:=fun a=>(fun x:ByteArray=>.val false [.s x]) (g264 a) }),(265, { pre:=fun a=>∃ n:Int,a=[.val false [.i .i64 n]],res:=fun a=>(fun x:ByteArray=>.val false [.s x]) (g265 a) })]) (N:=124) tabT (aa ok89 (aa k262 (aa k241 (aa k263 (aa k264 (aa k265 ae)))))) mixed Tryz.func241 rfl Tryz.call241 Tryz.ntmps241 ?_)
 rintro args ⟨r,hr,rfl⟩ hwf
 refine ⟨by simp,?_⟩
 clear hwf
 obtain ⟨hl,hall,har,hts⟩:=hr.args
 have hlm:(r.getD 3 default).rows.length≤1048576:=ja0 hl (by decide)
 have hnum:=hr.num
 rw [Tryz.results241]
 repeat' first
  | (refine And.intro ?_ ?_)
  | (intro h;simp only [reduceCtorEq] at h;done)
  | (intro h;rw [h])
  | (intro h)
 all_goals first
  | (show ac _=true;kernel_rfl)|(show aj _ _=true;kernel_rfl)|exact True.intro|exact Or.inr rfl|exact Or.inl rfl
  | exact ⟨_,rfl⟩
  | exact ⟨_,⟨hl,hall⟩,rfl⟩
  | decide
  | (have e:(r.getD 3 default).rows.length=2:=by first|exact ar7 har (by with_reducible assumption)|exact ar9 har (by with_reducible assumption)|exact ar0 har (by with_reducible assumption) (by with_reducible assumption) (by with_reducible assumption) (by with_reducible assumption) (by with_reducible assumption) (by with_reducible assumption)
     first|(show (0:Int) < (((r.getD 3 default).rows.length:Nat):Int);omega)|(show Int.toNat 0 < (r.getD 3 default).rows.length;rw [e];decide)|exact ⟨_,di hall (by show Int.toNat 0 < (r.getD 3 default).rows.length;rw [e];decide),rfl⟩|exact ⟨_,_,di hall (by show Int.toNat 0 < (r.getD 3 default).rows.length;rw [e];decide),rfl⟩|(show (1:Int) < (((r.getD 3 default).rows.length:Nat):Int);omega)|(show Int.toNat 1 < (r.getD 3 default).rows.length;rw [e];decide)|exact ⟨_,di hall (by show Int.toNat 1 < (r.getD 3 default).rows.length;rw [e];decide),rfl⟩|exact ⟨_,_,di hall (by show Int.toNat 1 < (r.getD 3 default).rows.length;rw [e];decide),rfl⟩)
  | (have e:(r.getD 3 default).rows.length=3:=by first|exact ar8 har (by with_reducible assumption)
     first|(show (0:Int) < (((r.getD 3 default).rows.length:Nat):Int);omega)|(show Int.toNat 0 < (r.getD 3 default).rows.length;rw [e];decide)|exact ⟨_,di hall (by show Int.toNat 0 < (r.getD 3 default).rows.length;rw [e];decide),rfl⟩|exact ⟨_,_,di hall (by show Int.toNat 0 < (r.getD 3 default).rows.length;rw [e];decide),rfl⟩|(show (1:Int) < (((r.getD 3 default).rows.length:Nat):Int);omega)|(show Int.toNat 1 < (r.getD 3 default).rows.length;rw [e];decide)|exact ⟨_,di hall (by show Int.toNat 1 < (r.getD 3 default).rows.length;rw [e];decide),rfl⟩|exact ⟨_,_,di hall (by show Int.toNat 1 < (r.getD 3 default).rows.length;rw [e];decide),rfl⟩|(show (2:Int) < (((r.getD 3 default).rows.length:Nat):Int);omega)|(show Int.toNat 2 < (r.getD 3 default).rows.length;rw [e];decide)|exact ⟨_,di hall (by show Int.toNat 2 < (r.getD 3 default).rows.length;rw [e];decide),rfl⟩|exact ⟨_,_,di hall (by show Int.toNat 2 < (r.getD 3 default).rows.length;rw [e];decide),rfl⟩)
  | ((with_reducible apply szT)
     · repeat (first|(with_reducible apply cat2)|exact q241 _|exact q262 _|exact q264 _|exact q265 _|exact hts|exact kq hnum|exact ja9 _)
     · repeat (first|(with_reducible apply cat2)|exact q241 _|exact q262 _|exact q264 _|exact q265 _|exact hts|exact kq hnum|exact ja9 _)
     · (try simp only [iG,jbr,ja8,jbh,maxLen,Nat.reduceAdd]);omega)
  | (refine ⟨_,?_,rfl,True.intro⟩
     apply szE
     · repeat (first|(with_reducible apply cat2)|exact q241 _|exact q262 _|exact q264 _|exact q265 _|exact hts|exact kq hnum|exact ja9 _)
     · (try simp only [iG,jbr,ja8,jbh,Nat.reduceAdd]);omega)
  | skip
theorem uG:AnyX Tryz.prog T 241 (preE [.i .i64,.i .i64,.s,.l 199] 0) (fun x:ByteArray=>.val false [.s x]) (fun x:ByteArray=>x.size≤0):=AnyX.none (⟨#[]⟩) (ja9 _) Tryz.call241 (by rintro a ⟨r,hr,_⟩;exact hr.elim)
theorem uF:AnyX Tryz.prog T 241 (preE [.i .i64,.i .i64,.s,.l 199] 1) (fun x:ByteArray=>.val false [.s x]) (fun x:ByteArray=>x.size≤64):=jc 0 0 (by decide) uG
theorem uE:AnyX Tryz.prog T 241 (preE [.i .i64,.i .i64,.s,.l 199] 2) (fun x:ByteArray=>.val false [.s x]) (fun x:ByteArray=>x.size≤320):=jc 1 64 (by decide) uF
theorem uD:AnyX Tryz.prog T 241 (preE [.i .i64,.i .i64,.s,.l 199] 3) (fun x:ByteArray=>.val false [.s x]) (fun x:ByteArray=>x.size≤1344):=jc 2 320 (by decide) uE
theorem uC:AnyX Tryz.prog T 241 (preE [.i .i64,.i .i64,.s,.l 199] 4) (fun x:ByteArray=>.val false [.s x]) (fun x:ByteArray=>x.size≤5440):=jc 3 1344 (by decide) uD
theorem uB:AnyX Tryz.prog T 241 (preE [.i .i64,.i .i64,.s,.l 199] 5) (fun x:ByteArray=>.val false [.s x]) (fun x:ByteArray=>x.size≤21824):=jc 4 5440 (by decide) uC
theorem any209:AnyX Tryz.prog T 209 (preE [.i .i64,.i .i64,.s,.l 199] 5) (fun x:ByteArray=>.val false [.s x]) (fun x:ByteArray=>x.size≤21824):=by
 obtain ⟨g241,k241,q241⟩:=uB
 obtain ⟨g240,k240,q240⟩:=any240 5
 refine AnyX.of (⟨#[]⟩) (jaU _) (fokA (fun _ (x:ByteArray)=>.val false [.s x]) (post:=fun _ (x:ByteArray)=>x.size≤21824) (env:=envL [(240, { pre:=preE [.i .i64,.i .i64,.s,.l 199] 5,res:=fun a=>(fun x:Bool=>.val false [.b x]) (g240 a) }),(241, { pre:=preE [.i .i64,.i .i64,.s,.l 199] 5,res:=fun a=>(fun x:ByteArray=>.val false [.s x]) (g241 a) })]) (N:=8) tabT (aa k240 (aa k241 ae)) mixed Tryz.func209 rfl Tryz.call209 Tryz.ntmps209 ?_)
 rintro args ⟨r,hr,rfl⟩ hwf
 refine ⟨by simp,?_⟩
 clear hwf
 rw [Tryz.results209]
 repeat' first
  | (refine And.intro ?_ ?_)
  | (intro h;simp only [reduceCtorEq] at h;done)
  | (intro h;rw [h])
  | (intro h)
 all_goals first
  | (show ac _=true;kernel_rfl)|(show aj _ _=true;kernel_rfl)|exact True.intro|exact Or.inr rfl|exact Or.inl rfl
  | exact ⟨_,hr,rfl⟩
  | exact ⟨_,(by decide),rfl,True.intro⟩
  | exact ⟨_,q241 _,rfl,True.intro⟩
  | skip
end Go.Proofs.YtkpnfbdoaljkpaaGreatDoor.Ab
