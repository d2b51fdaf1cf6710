/- A part. -/
import Derived.Test.YtdkofgjbbdbglaaGreatDoorCDa
namespace Go.Proofs.YtdkofgjbbdbglaaGreatDoor.Ab
open Go.RowKit
set_option linter.all false
structure EL where
 k:Int
 n:Int
 t:ByteArray
 l:List (List D)
instance:Inhabited EL:=⟨⟨0,0,ByteArray.empty,[]⟩⟩
abbrev EL.row (x:EL):List D:=[.i x.k,.i x.n,.s x.t,.l x.l]
def arOk (k:Int) (n:Nat):Bool:=if k=8 then n == 3 else if 1≤k∧k≤5 then true else n == 2
def ExOk:Nat→List D→Prop
 | 0,_=>False
 | d+1,r=>∃ x:EL,r=x.row∧inK .i64 x.k∧inK .i64 x.n∧x.t.size≤8∧x.l.length≤4∧arOk x.k x.l.length=true∧∀ y ∈ x.l,ExOk d y
theorem ExOk.mk {d:Nat} {k n:Int} {t:ByteArray} {l:List (List D)} (hk:inK .i64 k) (hn:inK .i64 n) (ht:t.size≤8) (hl:l.length≤4) (ha:arOk k l.length=true) (h:∀ y ∈ l,ExOk d y):ExOk (d+1) [.i k,.i n,.s t,.l l] :=
 ⟨⟨k,n,t,l⟩,rfl,hk,hn,ht,hl,ha,h⟩
theorem ExOk.up {r:List D}:∀ {d:Nat},ExOk d r→ExOk (d+1) r
 | 0,h=>h.elim
 | d+1,⟨x,h1,h2,h3,h4,h5,h6,h7⟩=>⟨x,h1,h2,h3,h4,h5,h6,fun y hy=>(h7 y hy).up⟩
theorem ExOk.mono {r:List D} {d e:Nat} (h:ExOk d r) (he:d≤e):ExOk e r:=by
 obtain ⟨k,rfl⟩:=Nat.exists_eq_add_of_le he
 clear he
 induction k with
 | zero=>exact h
 | succ k ih=>exact ih.up
theorem all0 {p:List D→Prop}:∀ y ∈ ([]:List (List D)),p y:=fun y h=>absurd h jda
theorem all1 {p:List D→Prop} {a:List D} (ha:p a):∀ y ∈ [a],p y:=fun y h=>by rw [jdX.1 h];exact ha
theorem lw {p:List D→Prop} {l m:List (List D)} (h:∀ y ∈ l,p y) (h' : ∀ y ∈ m,p y):∀ y ∈ l++m,p y:=fun y hy=>(jdG.1 hy).elim (h y) (h' y)
theorem aR {p:List D→Prop} {l:List (List D)} {a:List D} (h:∀ y ∈ l,p y) (ha:p a):∀ y ∈ l++[a],p y:=lw h (all1 ha)
theorem uS {p:List D→Prop} {l:List (List D)} {a:List D} {k:Nat} (h:∀ y ∈ l,p y) (ha:p a):∀ y ∈ l.set k a,p y:=fun y hy=>by
 rcases List.mem_or_eq_of_mem_set hy with h1|rfl
 · exact h y h1
 · exact ha
theorem ef {p:List D→Prop} {l:List (List D)} {k:Nat} (h:∀ y ∈ l,p y) (hk:k < l.length):p (l.getD k []):=by
 have:l.getD k []=l[k]:=by simp [List.getD,jc5 hk]
 rw [this]
 exact h _ (jew _)
theorem uR {p:List D→Prop} {l:List (List D)} (h:∀ y ∈ l,p y) (k:Nat):∀ y ∈ l.take k,p y:=fun y hy=>h y (jeL hy)
theorem uT {p:List D→Prop} {l:List (List D)} (h:∀ y ∈ l,p y) (k:Nat):∀ y ∈ l.drop k,p y:=fun y hy=>h y (List.mem_of_mem_drop hy)
theorem WfD.ofRows {T:Tab} {e:TypeId} {te:Ty} {l:List (List D)} (he:T e=some te) (hl:l.length≤maxLen) (h:∀ r ∈ l,WfRow T te.cts r):WfD T (.l e) (.l l) :=
 .sl e te l he hl (fun k row hk=>(h row (jdq hk)).1) (fun k j ct d row hk hc hd=>(h row (jdq hk)).2 j ct d hc hd)
theorem ExOk.wf {T:Tab} {E:TypeId} {te:Ty} (he:T E=some te) (hc:te.cts=[.i .i64,.i .i64,.s,.l E]):∀ {d:Nat} {r:List D},ExOk d r→WfRow T [.i .i64,.i .i64,.s,.l E] r
 | 0,_,h=>h.elim
 | d+1,r,⟨x,h1,h2,h3,h4,h5,h6,h7⟩=>by
   subst h1
   refine ⟨rfl,fun j ct dd hct hd=>?_⟩
   match j with
   | 0=>cases hct;cases hd;exact .int _ _ h2
   | 1=>cases hct;cases hd;exact .int _ _ h3
   | 2=>cases hct;cases hd;exact .str _ (jdd h4 (by decide))
   | 3 =>
     cases hct;cases hd
     refine WfD.ofRows he (jdd h5 (by decide)) fun r hr=>?_
     rw [hc]
     exact (h7 r hr).wf he hc
   | j+4=>simp at hct
theorem uK {k:Int} {n:Nat} (h:arOk k n=true) (h1:k ≠ 1) (h2:k ≠ 2) (h3:k ≠ 3) (h4:k ≠ 4) (h5:k ≠ 5) (h8:k ≠ 8):n=2:=by
 unfold arOk at h
 rw [if_neg h8,if_neg (by omega)] at h
 exact eq_of_beq h
theorem wz {k:Int} {n:Nat} (h:arOk k n=true) (h8:k=8):n=3:=by
 unfold arOk at h
 rw [if_pos h8] at h
 exact eq_of_beq h
theorem ExOk.num {d:Nat} {r:List D} (h:ExOk (d+1) r):inK .i64 (r.getD 1 default).int:=by
 obtain ⟨x,rfl,h2,h3,h⟩:=h
 exact h3
theorem ExOk.args {d:Nat} {r:List D} (h:ExOk (d+1) r):(r.getD 3 default).rows.length≤4∧(∀ y ∈ (r.getD 3 default).rows,ExOk d y)∧arOk (r.getD 0 default).int (r.getD 3 default).rows.length=true∧(r.getD 2 default).str.size≤8:=by
 obtain ⟨x,rfl,h2,h3,h4,h5,h6,h7⟩:=h
 exact ⟨h5,h7,h6,h4⟩
theorem ArgsR.wfs {T:Tab} {w:World} {X:Nat→Prop} {vals:List Value} {args:List SV} (h:ArgsR T w X vals args):∀ a ∈ args,WfSV T a:=fun a ha=>by
 obtain ⟨i,hi⟩:=jec ha
 have hlt:i < vals.length:=by rw [← h.1];exact (jdg.1 hi).1
 exact (h.2 i a vals[i] hi (jc5 hlt)).wf
section
variable {P:Program} {T:Tab} {f:FuncId}
def AnyX (P:Program) (T:Tab) (f:FuncId) (pre:List SV→Prop) {α:Type} (R:α→SV) (post:α→Prop):Prop :=
 ∃ g:List SV→α,FOk P T f { pre:=pre,res:=fun a=>R (g a) }∧∀ a,post (g a)
theorem AnyX.of {pre:List SV→Prop} {α:Type} {R:α→SV} {post:α→Prop} (x0:α) (h0:post x0) (h:∃ g:List SV→α,FOk P T f { pre:=pre,res:=fun a=>R (g a) }∧∀ a,pre a→(∀ b ∈ a,WfSV T b)→post (g a)):AnyX P T f pre R post:=by
 classical
 obtain ⟨g,k,q⟩:=h
 refine ⟨fun a=>if pre a∧∀ b ∈ a,WfSV T b then g a else x0,⟨k.call,(fun hb=>by cases hb),fun _ w X args vals a1 a2 a3 hpre=>?_,(fun hb=>by cases hb)⟩,fun a=>?_⟩
 · have:=k.ok rfl w X args vals a1 a2 a3 hpre
   have e:(if pre args∧∀ b ∈ args,WfSV T b then g args else x0)=g args:=if_pos ⟨hpre,a2.wfs⟩
   simp only
   rw [e]
   exact this
 · show post (if pre a∧∀ b ∈ a,WfSV T b then g a else x0)
   split
   · rename_i h;exact q a h.1 h.2
   · exact h0
theorem AnyX.none {pre:List SV→Prop} {α:Type} {R:α→SV} {post:α→Prop} (x0:α) (h0:post x0) (hcall:∀ args w,(callFunc f args).run P w=.ok (.enter f args) w) (h:∀ a, ¬ pre a):AnyX P T f pre R post :=
 ⟨fun _=>x0,⟨hcall,(fun hb=>by cases hb),fun _ w X args vals a1 a2 a3 hpre=>absurd hpre (h _),(fun hb=>by cases hb)⟩,fun _=>h0⟩
def preD (e:TypeId) (pre:List SV→Prop) (a:List SV):Prop:=∃ rows i h more,bo rows i∧pre more∧a=curA e rows i h :: more
def spD (e:TypeId) (pre:List SV→Prop) {α:Type} (R:α→SV) (g:List SV→α × Int × Int):FSpec where
 pre:=preD e pre
 res:=fun a=>R (g a).1
 bx:=true
 upd:=fun a=>curU e a (g a).2.1 (g a).2.2
def AnyD (P:Program) (T:Tab) (f:FuncId) (e:TypeId) (pre:List SV→Prop) {α:Type} (R:α→SV) (post:List SV→α→Prop):Prop :=
 ∃ g:List SV→α × Int × Int,FOk P T f (spD e pre R g)∧∀ rows i h more,bo rows i→pre more→bo rows (g (curA e rows i h :: more)).2.1∧post more (g (curA e rows i h :: more)).1
def iOf (a:List SV):Int:=match a with
 | .tup [(_,[_,.i _ i,_])] :: _=>i
 | _=>0
theorem AnyD.of {e:TypeId} {pre:List SV→Prop} {α:Type} {R:α→SV} {post:List SV→α→Prop} (x0:List SV→α) (h0:∀ more,pre more→post more (x0 more))
 (h:∃ g:List SV→α × Int × Int,FOk P T f { pre:=preD e pre,res:=fun a=>R (g a).1,bx:=true,upd:=fun a=>curU e a (g a).2.1 (g a).2.2 }∧∀ cs args,preD e pre (.tup [(true,cs)] :: args)→(∀ a ∈ args,WfSV T a)→bo (rowsOf (.tup [(true,cs)] :: args)) (g (.tup [(true,cs)] :: args)).2.1∧post args (g (.tup [(true,cs)] :: args)).1):AnyD P T f e pre R post:=by
 classical
 obtain ⟨g,k,q⟩:=h
 refine ⟨fun a=>if preD e pre a∧∀ b ∈ a.tail,WfSV T b then g a else (x0 a.tail,iOf a,0),⟨k.call,fun _ _ w X b ob cs args vals a1 a2 a3 a4 a5 a6 a7 a8 hpre=>?_,(fun hb=>by cases hb),(fun _ hn=>by cases hn)⟩,fun rows i h more hc hp=>?_⟩
 · have:=k.okb rfl rfl w X b ob cs args vals a1 a2 a3 a4 a5 a6 a7 a8 hpre
   have e:(if preD e pre (.tup [(true,cs)] :: args)∧∀ b ∈ (SV.tup [(true,cs)] :: args).tail,WfSV T b then g (.tup [(true,cs)] :: args) else (x0 (SV.tup [(true,cs)] :: args).tail,iOf (.tup [(true,cs)] :: args),0))=g (.tup [(true,cs)] :: args):=if_pos ⟨hpre,a7.wfs⟩
   simp only [spD]
   rw [e]
   exact this
 · have hpre:preD e pre (curA e rows i h :: more):=⟨rows,i,h,more,hc,hp,rfl⟩
   by_cases hw:∀ b ∈ more,WfSV T b
   · have:=q _ _ hpre hw
     have ee:(if preD e pre (curA e rows i h :: more)∧∀ b ∈ (curA e rows i h :: more).tail,WfSV T b then g (curA e rows i h :: more) else (x0 (curA e rows i h :: more).tail,iOf (curA e rows i h :: more),0))=g (curA e rows i h :: more):=if_pos ⟨hpre,hw⟩
     show bo rows (if preD e pre (curA e rows i h :: more)∧∀ b ∈ (curA e rows i h :: more).tail,WfSV T b then g (curA e rows i h :: more) else (x0 (curA e rows i h :: more).tail,iOf (curA e rows i h :: more),0)).2.1∧post more (if preD e pre (curA e rows i h :: more)∧∀ b ∈ (curA e rows i h :: more).tail,WfSV T b then g (curA e rows i h :: more) else (x0 (curA e rows i h :: more).tail,iOf (curA e rows i h :: more),0)).1
     rw [ee]
     exact this
   · have ee:(if preD e pre (curA e rows i h :: more)∧∀ b ∈ (curA e rows i h :: more).tail,WfSV T b then g (curA e rows i h :: more) else (x0 (curA e rows i h :: more).tail,iOf (curA e rows i h :: more),0))=(x0 more,i,0):=if_neg (fun x=>hw x.2)
     show bo rows (if preD e pre (curA e rows i h :: more)∧∀ b ∈ (curA e rows i h :: more).tail,WfSV T b then g (curA e rows i h :: more) else (x0 (curA e rows i h :: more).tail,iOf (curA e rows i h :: more),0)).2.1∧post more (if preD e pre (curA e rows i h :: more)∧∀ b ∈ (curA e rows i h :: more).tail,WfSV T b then g (curA e rows i h :: more) else (x0 (curA e rows i h :: more).tail,iOf (curA e rows i h :: more),0)).1
     rw [ee]
     exact ⟨hc,h0 more hp⟩
theorem AnyD.none {e:TypeId} {pre:List SV→Prop} {α:Type} {R:α→SV} {post:List SV→α→Prop} (x0:List SV→α) (hcall:∀ args w,(callFunc f args).run P w=.ok (.enter f args) w) (h:∀ a, ¬ pre a):AnyD P T f e pre R post :=
 ⟨fun a=>(x0 a,0,0),⟨hcall,fun _ _ w X b ob cs args vals a1 a2 a3 a4 a5 a6 a7 a8 hpre=>(by obtain ⟨_,_,_,m,_,h2,_⟩:=hpre;exact absurd h2 (h m)),(fun hb=>by cases hb),(fun _ hn=>by cases hn)⟩,fun rows i h' more hc hp=>absurd hp (h more)⟩
end
abbrev preE (c:List CT) (d:Nat) (a:List SV):Prop:=∃ r,ExOk d r∧a=[argG c r]
abbrev oH (c:List CT) (d:Nat) (a:List SV):Prop:=∃ r n,ExOk d r∧a=[argG c r,.val false [.i .i64 n]]
abbrev jbK (e:TypeId) (d:Nat) (a:List SV):Prop:=∃ l:List (List D),(l.length≤4∧∀ y ∈ l,ExOk d y)∧a=[argS e l]
theorem ltN' {i n:Nat} (h:decide ((i:Int) < (n:Int))=true):i < n:=by have:=jc6 h;omega
theorem dG {i n:Nat} (hi:i < n) (hn:n≤1048576):IntKind.i64.wrap ((i:Int)+1)=((i+1:Nat):Int):=by
 rw [IntKind.wrap_i64];omega
theorem tQ {s a b:Int} (h:(!inR s a b)=false):a≤s∧s≤b:=by
 have h:inR s a b=true:=by simpa using h
 unfold inR at h
 rw [jdj,decide_eq_true_eq,decide_eq_true_eq] at h
 exact h
theorem ll {n:Int} (h:inK .i64 n):(aB n).size≤20:=by
 have h1:IntKind.i64.min = -9223372036854775808:=by decide
 have h2:IntKind.i64.max=9223372036854775807:=by decide
 rw [inK,h1,h2] at h
 show (Lib.itoa n).toArray.size≤20
 rw [jdE]
 unfold Lib.itoa
 split
 · have:=bz 18 n.natAbs (by simp only [Nat.reduceAdd,Nat.reducePow];omega)
   rw [jdl]
   omega
 · have:=bz 18 n.toNat (by simp only [Nat.reduceAdd,Nat.reducePow];omega)
   omega
set_option maxRecDepth 100000
set_option maxHeartbeats 2000000
theorem ok50:FOk Tryz.prog T 50 (sg 5):=by
 refine fokB (env:=envL []) (N:=58) tabT ae mixed Tryz.func50 rfl Tryz.call50 Tryz.ntmps50 ?_
 rintro cs args ⟨rows,i,h0,ok,he⟩ hwf
 obtain ⟨rfl,rfl⟩:cs=curC 5 rows i h0∧args=[]:=by simpa only [jdw,SV.tup.injEq,jdA,true_and,and_true] using he
 refine ⟨by simp,?_⟩
 clear hwf he
 rw [Tryz.results50]
 repeat' first
  | refine And.intro ?_ ?_
  | (intro h;simp only [reduceCtorEq] at h;done)
  | (intro h;rw [h])
  | intro h
 all_goals first
  | (show av _=true;kernel_rfl)
  | (show ba _ _=true;kernel_rfl)
  | exact True.intro
  | exact Or.inr rfl
  | exact (jbr _).1
  | exact (jbr _).2
  | exact (jbq _).1
  | exact (jbq _).2
  | decide
  | exact ok.1
  | exact jc6 h
  | exact congrArg (fun z=>[CV.i .i64 z]) (oB h)
  | exact congrArg (fun z=>[CV.i .i64 z]) (qI h)
  | exact wk ok h
  | exact zV h
theorem ok29:FOk Tryz.prog T 29 (bM 5):=by
 refine fokB (env:=envL [(50,(sg 5))]) (N:=37) tabT (aa ok50 ae) mixed Tryz.func29 rfl Tryz.call29 Tryz.ntmps29 ?_
 rintro cs args ⟨rows,i,h0,n,ok,hn,he⟩ hwf
 obtain ⟨rfl,rfl⟩:cs=curC 5 rows i h0∧args=[.val false [.i .i64 n]]:=by simpa only [jdw,SV.tup.injEq,jdA,true_and,and_true] using he
 refine ⟨by simp,?_⟩
 clear hwf he
 rw [Tryz.results29]
 repeat' first
  | refine And.intro ?_ ?_
  | (intro h;simp only [reduceCtorEq] at h;done)
  | (intro h;rw [h])
  | intro h
 all_goals first
  | exact True.intro
  | exact Or.inr rfl
  | exact ⟨_,_,_,ok,rfl⟩
  | exact (xW hn).1
  | exact (xW hn).2
  | (have:=hn.1;have:=hn.2;have h2:=jc6 h;omega)
  | (have:=hn.1;have:=hn.2;have h2:=jdh h;omega)
  | (have:=hn.1;omega)
  | rfl
theorem ok25:FOk Tryz.prog T 25 (kW 5):=by
 refine fokB (env:=envL [(29,(bM 5))]) (N:=9) tabT (aa ok29 ae) mixed Tryz.func25 rfl Tryz.call25 Tryz.ntmps25 ?_
 rintro cs args ⟨rows,i,h0,n,ok,hn,he⟩ hwf
 obtain ⟨rfl,rfl⟩:cs=curC 5 rows i h0∧args=[.val false [.i .i64 n]]:=by simpa only [jdw,SV.tup.injEq,jdA,true_and,and_true] using he
 refine ⟨by simp,?_⟩
 clear hwf he
 rw [Tryz.results25]
 repeat' first
  | refine And.intro ?_ ?_
  | (intro h;simp only [reduceCtorEq] at h;done)
  | (intro h;rw [h])
  | intro h
 all_goals first
  | exact True.intro
  | exact Or.inr rfl
  | exact ⟨_,_,_,_,ok,hn,rfl⟩
  | rfl
theorem ok48:FOk Tryz.prog T 48 (eI 5 9):=by
 refine fokB (env:=envL [(29,(bM 5))]) (N:=12) tabT (aa ok29 ae) mixed Tryz.func48 rfl Tryz.call48 Tryz.ntmps48 ?_
 rintro cs args ⟨rows,i,h0,list,ok,hn,he⟩ hwf
 obtain ⟨rfl,rfl⟩:cs=curC 5 rows i h0∧args=[argS 9 list]:=by simpa only [jdw,SV.tup.injEq,jdA,true_and,and_true] using he
 refine ⟨by simp,?_⟩
 clear hwf he
 rw [Tryz.results48]
 repeat' first
  | refine And.intro ?_ ?_
  | (intro h;simp only [reduceCtorEq] at h;done)
  | (intro h;rw [h])
  | intro h
 all_goals first
  | exact True.intro
  | exact Or.inr rfl
  | exact ⟨_,_,_,_,ok,hn,rfl⟩
  | exact (aP hn).1
  | exact (aP hn).2
  | rfl
def az (a:List SV):List (List D):=match a with
 | [.val _ [.sl _ _ l]]=>l
 | _=>[]
def nOfM (a:List SV):Int:=match a with
 | [.val _ [.i _ n]]=>n
 | _=>0
def jbp (m:List SV):Nat:=match m with
 | [.val _ [.s s],_]=>s.size
 | _=>0
theorem tur3 {s p:ByteArray} {a:Nat} (hp:p.size≤20) (ha:a≤s.size):(s.extract 0 a++p++s.extract a s.size).size≤s.size+20:=by
 rw [jdr,jdr,jdv,jdv];omega
theorem tur1 {s:ByteArray} {a b:Nat}:(s.extract a b).size≤s.size+20:=by
 rw [jdv];omega
theorem turS2 {s p:ByteArray} {a b:Nat} (hs:s.size≤500000) (hp:p.size≤20):(s.extract a b).size+p.size≤maxLen:=by
 rw [jdv];simp only [maxLen];omega
theorem turS3 {s p:ByteArray} {a b c d:Nat} (hs:s.size≤500000) (hp:p.size≤20):(s.extract a b++p).size+(s.extract c d).size≤maxLen:=by
 rw [jdr,jdv,jdv];simp only [maxLen];omega
theorem any27:AnyD Tryz.prog T 27 5 (fun m=>∃ l:List (List D),bT (l.length:Int)∧m=[argS 3 l]) (fun x:Int=>.val false [.i .i64 x]) (fun (m:List SV) (x:Int)=>∀ P:Int→Prop,P 0→(∀ r ∈ az m,P (r.getD 0 default).int)→P x):=by
 refine AnyD.of (fun _=>0) (fun _ _ P h0 _=>h0) (dM (α:=Int × Int × Int) (fun _ z=>(fun x:Int=>.val false [.i .i64 x]) z.1) (fun a z=>curU 5 a z.2.1 z.2.2) (post:=fun a z=>bo (rowsOf a) z.2.1∧(fun (m:List SV) (x:Int)=>∀ P:Int→Prop,P 0→(∀ r ∈ az m,P (r.getD 0 default).int)→P x) a.tail z.1) (env:=envL [(29,(bM 5))]) (N:=12) tabT (aa ok29 ae) mixed Tryz.func27 rfl Tryz.call27 Tryz.ntmps27 ?_)
 rintro cs args ⟨rows,i,h0,more,ok,hp,he⟩ hwf
 obtain ⟨rfl,rfl⟩:cs=curC 5 rows i h0∧args=more:=by simpa only [jdw,SV.tup.injEq,jdA,true_and,and_true] using he
 obtain ⟨l,hl,rfl⟩:=hp
 refine ⟨by simp,?_⟩
 clear he hwf
 rw [Tryz.results27]
 repeat' first
  | refine And.intro ?_ ?_
  | (intro h;simp only [reduceCtorEq] at h;done)
  | (intro h;rw [h])
  | intro h
 all_goals first
  | exact Or.inr rfl
  | (show List.length _=_;rfl)
  | exact (aP hl).1
  | exact (aP hl).2
  | refine ⟨_,_,_,_,?_,hl,rfl⟩
  | (refine ⟨(_,_,_),⟨?_,?_⟩,rfl,rfl,True.intro⟩;rotate_left;focus (exact fun P h0 h=>vK h0 h _))
 all_goals repeat (first|exact ok|exact ok1|exact ok2|refine am ?_)
theorem any29g:AnyD Tryz.prog T 29 5 (fun m=>∃ n:Int,(1≤n∧n≤1048577)∧m=[.val false [.i .i64 n]]) (fun x:Int=>.val false [.i .i64 x]) (fun (m:List SV) (x:Int)=>0≤x∧x < nOfM m):=by
 refine AnyD.of (fun _=>0) ((by rintro m ⟨n,hn,rfl⟩;exact ⟨jdR 0,(show 0 < n by omega)⟩)) (dM (α:=Int × Int × Int) (fun _ z=>(fun x:Int=>.val false [.i .i64 x]) z.1) (fun a z=>curU 5 a z.2.1 z.2.2) (post:=fun a z=>bo (rowsOf a) z.2.1∧(fun (m:List SV) (x:Int)=>0≤x∧x < nOfM m) a.tail z.1) (env:=envL [(50,(sg 5))]) (N:=37) tabT (aa ok50 ae) mixed Tryz.func29 rfl Tryz.call29 Tryz.ntmps29 ?_)
 rintro cs args ⟨rows,i,h0,more,ok,hp,he⟩ hwf
 obtain ⟨rfl,rfl⟩:cs=curC 5 rows i h0∧args=more:=by simpa only [jdw,SV.tup.injEq,jdA,true_and,and_true] using he
 obtain ⟨n,hn,rfl⟩:=hp
 refine ⟨by simp,?_⟩
 clear he hwf
 rw [Tryz.results29]
 repeat' first
  | refine And.intro ?_ ?_
  | (intro h;simp only [reduceCtorEq] at h;done)
  | (intro h;rw [h])
  | intro h
 all_goals first
  | exact Or.inr rfl
  | (show List.length _=_;rfl)
  | refine ⟨_,_,_,?_,rfl⟩
  | (exfalso;have h2:=jc6 h;have:=hn.1;omega)
  | exact (tmK (dy _ _ _).1 hn).1
  | exact (tmK (dy _ _ _).1 hn).2
  | exact (tmK big4 hn).1
  | exact (tmK big4 hn).2
  | (have:=hn.1;omega)
  | (refine ⟨(_,_,_),⟨?_,?_⟩,rfl,rfl,True.intro⟩;rotate_left;focus (exact yB (dy _ _ _).1 hn.1))
  | (refine ⟨(_,_,_),⟨?_,?_⟩,rfl,rfl,True.intro⟩;rotate_left;focus (exact yB big4 hn.1))
 all_goals repeat (first|exact ok|exact ok1|exact ok2|refine am ?_)
theorem any148:AnyD Tryz.prog T 148 5 (fun m=>∃ (s:ByteArray) (l:List (List D)),(s.size≤500000∧bT (l.length:Int)∧∀ k,(((l.getD k []).getD 0 default).str).size≤20)∧m=[.val false [.s s],argS 9 l]) (fun x:ByteArray=>.val false [.s x]) (fun (m:List SV) (x:ByteArray)=>x.size≤jbp m+20):=by
 obtain ⟨g29g,k29g,q29g⟩:=any29g
 refine AnyD.of (fun _=>⟨#[]⟩) (fun _ _=>jc7 _) (dM (α:=ByteArray × Int × Int) (fun _ z=>(fun x:ByteArray=>.val false [.s x]) z.1) (fun a z=>curU 5 a z.2.1 z.2.2) (post:=fun a z=>bo (rowsOf a) z.2.1∧(fun (m:List SV) (x:ByteArray)=>x.size≤jbp m+20) a.tail z.1) (env:=envL [(29,spD 5 (fun m=>∃ n:Int,(1≤n∧n≤1048577)∧m=[.val false [.i .i64 n]]) (fun x:Int=>.val false [.i .i64 x]) g29g),(48,(eI 5 9))]) (N:=34) tabT (aa k29g (aa ok48 ae)) mixed Tryz.func148 rfl Tryz.call148 Tryz.ntmps148 ?_)
 rintro cs args ⟨rows,i,h0,more,ok,hp,he⟩ hwf
 obtain ⟨rfl,rfl⟩:cs=curC 5 rows i h0∧args=more:=by simpa only [jdw,SV.tup.injEq,jdA,true_and,and_true] using he
 obtain ⟨s,l,⟨hs,hl,hp⟩,rfl⟩:=hp
 refine ⟨by simp,?_⟩
 clear he hwf
 have hw:IntKind.i64.wrap ((s.size:Int)+1)=(s.size:Int)+1:=aF (by omega) (by omega)
 obtain ⟨hcur,ha0,ha1⟩:=q29g rows i h0 [.val false [.i .i64 (IntKind.i64.wrap ((s.size:Int)+1))]] ok ⟨_,by rw [hw];omega,rfl⟩
 have ha1:(g29g [curA 5 rows i h0,.val false [.i .i64 (IntKind.i64.wrap ((s.size:Int)+1))]]).1 < (s.size:Int)+1:=Int.lt_of_lt_of_le ha1 (Int.le_of_eq hw)
 have ha2:(g29g [curA 5 rows i h0,.val false [.i .i64 (IntKind.i64.wrap ((s.size:Int)+1))]]).1.toNat≤s.size:=by omega
 have ha0:0≤(g29g [curA 5 rows i h0,.val false [.i .i64 (IntKind.i64.wrap ((s.size:Int)+1))]]).1:=ha0
 rw [Tryz.results148]
 repeat' first
  | refine And.intro ?_ ?_
  | (intro h;simp only [reduceCtorEq] at h;done)
  | (intro h;rw [h])
  | intro h
 all_goals first
  | (show av _=true;kernel_rfl)
  | (show ba _ _=true;kernel_rfl)
  | exact Or.inr rfl
  | (show List.length _=_;rfl)
  | refine ⟨_,_,_,_,?_,⟨_,⟨by decide,by decide⟩,rfl⟩,rfl⟩
  | exact ⟨_,_,_,_,ok,⟨_,by rw [hw];omega,rfl⟩,rfl⟩
  | refine ⟨_,_,_,_,?_,hl,rfl⟩
  | exact jdR 0
  | exact ha0
  | exact jeA ha1
  | exact jdR _
  | exact turS2 hs (hp _)
  | exact turS3 hs (hp _)
  | (refine ⟨(_,_,_),⟨?_,?_⟩,rfl,rfl,True.intro⟩;rotate_left;focus (exact tur3 (hp _) ha2))
  | (refine ⟨(_,_,_),⟨?_,?_⟩,rfl,rfl,True.intro⟩;rotate_left;focus (exact tur1))
  | (refine ⟨(_,_,_),⟨?_,?_⟩,rfl,rfl,True.intro⟩;rotate_left;focus (exact Nat.le_add_right _ _))
 all_goals repeat (first|exact ok|exact ok1|exact ok2|exact hcur|refine am ?_|refine (q29g _ _ _ _ ?_ ⟨_,⟨by decide,by decide⟩,rfl⟩).1)
end Go.Proofs.YtdkofgjbbdbglaaGreatDoor.Ab
