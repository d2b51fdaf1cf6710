/- A part. -/
import Derived.Test.YtdjfhmghebommaaGreatDoorDMd
import Derived.Test.YtdjfhmghebommaaGreatDoorDPa
namespace Go.Proofs.YtdjfhmghebommaaGreatDoor.Ab
open Go.RowKit
set_option linter.all false
set_option maxRecDepth 100000
section
noncomputable abbrev Td:Tab:=T.on true
theorem il:TabOk Tryz.prog Td:=TabOk.on true tabT
def ofO:CT→D→CV
 | .l e,d=>.sl true e d.rows
 | ct,d=>ofD ct d
def rowO (cts:List CT) (row:List D):List CV:=cts.zipIdx.map fun (ct,j)=>ofO ct (row.getD j default)
theorem d_ofO (ct:CT) (d:D):(ofO ct d).d=(ofD ct d).d:=by cases ct <;> rfl
theorem qm {cts:List CT} {r:List D} (h:WfRow T cts r):csD (rowO cts r)=r:=by
 refine jdk ?_ (au h)
 unfold csD rowO rowC
 rw [jdd,jdd]
 exact jdj fun p _=>d_ofO _ _
def rU (cts:List CT) (ok:ByteArray→Int→Bool→Prop) (g:ByteArray→Int→Bool→Rd3):FSpec where
 pre args:=∃ (s:ByteArray) (k:Int) (b:Bool),PosIn s k∧ok s k b∧args=[rdrS s k b]
 bx:=true
 res args:=match args with
  | [.tup [(_,[.s s,.i _ k,.b b])]]=>.val true (rowO cts (g s k b).1)
  | _=>.none
 upd args:=match args with
  | [.tup [(_,[.s s,.i _ k,.b b])]]=>rdrC s (g s k b).2.1 (g s k b).2.2
  | _=>[]
def lg (cts:List CT) (d:Nat) (g:ByteArray→Int→Bool→Rd3):FSpec where
 pre args:=∃ (s:ByteArray) (k:Int) (b:Bool) (x:Int),PosIn s k∧x=(d:Int)∧args=[rdrS s k b,iArg x]
 bx:=true
 res args:=match args with
  | [.tup [(_,[.s s,.i _ k,.b b])],_]=>.val true (rowO cts (g s k b).1)
  | _=>.none
 upd args:=match args with
  | [.tup [(_,[.s s,.i _ k,.b b])],_]=>rdrC s (g s k b).2.1 (g s k b).2.2
  | _=>[]
def ot (cts:List CT) (va vb vc:ByteArray→Int→Bool→Rd3):FSpec where
 pre args:=∃ (s:ByteArray) (k:Int) (b:Bool) (d:Int),PosIn s k∧(d=0∨d=2∨d=3)∧args=[rdrS s k b,iArg d]
 bx:=true
 res args:=match args with
  | [.tup [(_,[.s s,.i _ k,.b b])],.val _ [.i _ d]]=>.val true (if d=0 then rowC cts (va s k b).1 else if d=2 then rowC cts (vb s k b).1 else rowO cts (vc s k b).1)
  | _=>.none
 upd args:=match args with
  | [.tup [(_,[.s s,.i _ k,.b b])],.val _ [.i _ d]]=>rdrC s (if d=0 then va s k b else if d=2 then vb s k b else vc s k b).2.1 (if d=0 then va s k b else if d=2 then vb s k b else vc s k b).2.2
  | _=>[]
def pF (cts:List CT) (g:ByteArray→Rd3):FSpec where
 pre args:=∃ s:ByteArray,s.size≤1048576∧args=[rdrS s 0 true]
 bx:=true
 res args:=match args with
  | [.tup [(_,[.s s,_,_])]]=>.val true (rowO cts (g s).1)
  | _=>.none
 upd args:=match args with
  | [.tup [(_,[.s s,_,_])]]=>rdrC s (g s).2.1 (g s).2.2
  | _=>[]
def pH (cts:List CT) (f:Int→List D):FSpec where
 pre args:=∃ n:Int,args=[iArg n]
 res args:=match args with
  | [.val _ [.i _ n]]=>.val true (rowO cts (f n))
  | _=>.none
def rZ (cts:List CT) (f:ByteArray→List D):FSpec where
 pre args:=∃ t:ByteArray,args=[sArg t]
 res args:=match args with
  | [.val _ [.s t]]=>.val true (rowO cts (f t))
  | _=>.none
def vZ (cts:List CT) (f:Int→Int→List D):FSpec where
 pre args:=∃ n m:Int,args=[iArg n,iArg m]
 res args:=match args with
  | [.val _ [.i _ n],.val _ [.i _ m]]=>.val true (rowO cts (f n m))
  | _=>.none
def xK (cts:List CT) (n:Nat) (f:ByteArray→List D × Bool):FSpec where
 pre args:=∃ s:ByteArray,s.size≤1048576∧s.size+1≤n∧args=[sArg s]
 res args:=match args with
  | [.val _ [.s s]]=>.tup [(true,rowO cts (f s).1),(false,[.b (f s).2])]
  | _=>.none
theorem resO {cts:List CT} {p q:Rd3} {cs:List CV} (h:q=p) (hc:cs=rowO cts p.1):cs=rowO cts q.1:=by subst h;exact hc
theorem sI {cts:List CT} {q:Rd3} {v:List D} {cs:List CV} (h:q.1=v) (hc:cs=rowO cts v):cs=rowO cts q.1:=by rw [h];exact hc
theorem gJ {cts:List CT} {p q:List D × Bool} {cs:List CV} {e:Bool} (h:q=p) (hc:cs=rowO cts p.1) (he:e=p.2):[(true,cs),(false,[CV.b e])]=[(true,rowO cts q.1),(false,[CV.b q.2])]:=by
 subst h hc he;rfl
theorem FOk.rd2O {P:Program} {T:Tab} {f:FuncId} {cts:List CT} {va vb vc:ByteArray→Int→Bool→Rd3} (h0:FOk P T f (mR cts 0 va)) (h2:FOk P T f (mR cts 2 vb)) (h3:FOk P T f (lg cts 3 vc)):FOk P T f (ot cts va vb vc):=by
 refine ⟨h0.call,fun _ _ w X b ob cs args vals a1 a2 a3 a4 a5 a6 a7 a8 hpre=>?_,fun hb=>(by cases hb),fun _ hb=>(by cases hb)⟩
 obtain ⟨s,k,bb,d,hp,hd,he⟩:=hpre
 rcases hd with rfl|rfl|rfl
 · have:=h0.okb rfl rfl w X b ob cs args vals a1 a2 a3 a4 a5 a6 a7 a8 ⟨s,k,bb,0,hp,rfl,he⟩
   rw [he] at this ⊢
   exact this
 · have:=h2.okb rfl rfl w X b ob cs args vals a1 a2 a3 a4 a5 a6 a7 a8 ⟨s,k,bb,2,hp,rfl,he⟩
   rw [he] at this ⊢
   exact this
 · have:=h3.okb rfl rfl w X b ob cs args vals a1 a2 a3 a4 a5 a6 a7 a8 ⟨s,k,bb,3,hp,rfl,he⟩
   rw [he] at this ⊢
   exact this
theorem FOk.lends {P:Program} {T:Tab} {f:FuncId} {s:FSpec} (h:FOk P T f s):FOk P T f { s with nr:=true }:=⟨h.call,h.okb,h.ok,h.okn⟩
def pD:FSpec where
 pre args:=∃ s:ByteArray,s.size≤1048576∧args=[sArg s,sArg ⟨#[32]⟩]
 res args:=match args with
  | [.val _ [.s s],_]=>.val false [.sl true 9 (ae (aj s))]
  | _=>.none
theorem bU {P:Program}:eu P Td (envL []):=fun f s h=>by cases h
theorem ay {P:Program} {g:FuncId} {s:FSpec} {l:List (FuncId × FSpec)} (h:FOk P Td g s) (hl:eu P Td (envL l)):eu P Td (envL ((g,s) :: l)):=fun f s' hf=>by
 simp only [envL] at hf
 split at hf
 · rename_i e;subst e;obtain rfl:=jbR hf;exact h
 · exact hl f s' hf
theorem xR (T:Tab) (cts:List CT) (r:List D):(rowC cts r).all (CV.fl T)=true:=by
 unfold rowC
 rw [List.all_map,jcb]
 rintro ⟨ct,j⟩ _
 show CV.fl T (ofD ct _)=true
 cases ct <;> rfl
theorem okSplitO:FOk Tryz.prog T 50 pD:=by
 refine ⟨Tryz.call50,fun hb=>(by cases hb),fun _ w X args vals hX hargs hgl hpre=>?_,fun hb=>(by cases hb)⟩
 obtain ⟨s,hs,rfl⟩:=hpre
 obtain ⟨v,u,rfl,⟨rfl,_⟩,⟨rfl,_⟩⟩:=hargs.two_
 obtain ⟨_,_,u,hm,m,rfl⟩:=hgl.2 (0,false) (by decide)
 refine (Tryz.strings_Split s ⟨#[32]⟩ m w (by omega) hm (by decide)).mono ?_
 rintro e w' ⟨he,hw⟩
 have hl:=Lib.splitB_all ⟨#[32]⟩ (by decide) 0 _ s rfl
 rw [fS _ s (jb4 _)] at hw hl
 have hle:=Lib.countB_le ⟨#[32]⟩ (by decide) s.size s (jb4 _)
 refine ⟨_,fun j b=>j=0∧b=w.heap.size,he,?_,?_,?_,fun j j2 b h h2=>h.1.trans h2.1.symm⟩
 · rw [hw];exact (Below.refl _ _).alloc (jb4 _) _
 · have hn:(aj s).length=(az s.data.toList).length:=by simp [aj]
   have hrl:(ae (aj s)).length=(aj s).length:=by simp [ae]
   have hsz:∀ x ∈ aj s,x.size≤maxLen:=fun x hx=>jbV (dO hx) (jbV hs (by decide))
   refine ⟨_,rfl,?_⟩
   show OwnF T w' _ (fun b=>0=0∧b=w.heap.size) 9 _ (ae (aj s))
   rw [show Lib.countB s ⟨#[32]⟩+1=(ae (aj s)).length by omega]
   refine OwnF.of_own rfl ⟨_,(aj s).map Value.string,(show T 9=some _ from rfl),?_,fun k row hk=>?_,fun k j ct d row hk hct hd=>?_⟩ (fun b=>?_)
   · refine ⟨by rw [jb0,hrl];exact (jdw _).symm,.inr ⟨w.heap.size,_,_,rfl,jbP _,by rw [hw];exact heap_alloc_new w _,jb4 _,by simp only [maxLen];omega,?_,?_⟩⟩
     · rw [hrl];simp
     · rw [hrl]
       show List.take ((aj s).length * 1) _=_
       exact jcr (by simp)
   · simp only [ae,jcf] at hk
     cases hx:(aj s)[k]? with
     | none=>rw [hx] at hk;cases hk
     | some x=>rw [hx] at hk;obtain rfl:=jbR hk;rfl
   · simp only [ae,jcf] at hk
     cases hx:(aj s)[k]? with
     | none=>rw [hx] at hk;cases hk
     | some x =>
       rw [hx] at hk
       obtain rfl:=jbR hk
       obtain rfl:j=0:=by
        have:=(jbY.1 hd).1
        simpa using this
       obtain rfl:=jbR hct
       obtain rfl:=jbR hd
       refine ⟨.string x,?_,.str x (hsz x (jb8 hx))⟩
       show (List.map Value.string (aj s))[k * 1+0]? = _
       rw [jdw,jdr,jcf,hx]
       rfl
   · show 0=0∧b=w.heap.size ↔ some w.heap.size=some b
     exact ⟨fun h=>by rw [h.2],fun h=>⟨rfl,(jbR h).symm⟩⟩
 · rintro j b ⟨_,rfl⟩
   refine ⟨jb4 _,?_⟩
   rw [hw]
   exact (jcT.1 (heap_alloc_new w _)).1
theorem oo23:FOk Tryz.prog T 23 (dT true):=by
 refine fok (env:=envL [(50,pD)]) (N:=10) tabT (ac okSplitO af) mixed Tryz.func23 rfl Tryz.call23 Tryz.ntmps23 ?_
 rintro args ⟨s,hs,rfl⟩ hwf
 refine ⟨by simp,?_⟩
 clear hwf
 rw [Tryz.results23]
 repeat' first
  | refine And.intro ?_ ?_
  | (intro h;simp only [reduceCtorEq] at h;done)
  | (intro h;rw [h])
  | intro h
 all_goals first
  | (show aa _=true;kernel_rfl)|(show am _ _=true;kernel_rfl)|exact True.intro|exact Or.inr rfl|exact Or.inl rfl
  | exact rfl
  | exact ⟨_,rfl⟩
  | exact ⟨_,hs,rfl⟩
  | skip
theorem os23:FOk Tryz.prog Td 23 (dT true):=FOk.on true oo23 (fun args h=>by obtain ⟨s,_,rfl⟩:=h;rfl) (fun hb=>by cases hb)
def dt (cts:List CT) (f:ByteArray→List D × Bool):FSpec where
 pre args:=∃ s:ByteArray,s.size≤1048576∧args=[sArg s]
 res args:=match args with
  | [.val _ [.s s]]=>.tup [(true,rowO cts (f s).1),(false,[.b (f s).2])]
  | _=>.none
theorem FOk.pv2O {P:Program} {T:Tab} {f:FuncId} {cts:List CT} {g:ByteArray→List D × Bool} (h:FOk P T f (xK cts 1048577 g)):FOk P T f (dt cts g) :=
 ⟨h.call,fun hb=>(by cases hb),fun _ w X args vals x1 x2 x3 ⟨s,h1,h2⟩=>h.ok rfl w X args vals x1 x2 x3 ⟨s,h1,by omega,h2⟩,fun hb=>(by cases hb)⟩
variable {mt:Int→ByteArray}
structure DeepRow (T:Tab) (w:World) (F:Nat→Nat→Prop) (cts:List CT) (us:List Value) (row:List D):Prop where
 len:us.length=cts.length
 rlen:row.length=cts.length
 lt:∀ (i b:Nat),F i b→b < w.heap.size
 inj:∀ (i j b:Nat),F i b→F j b→i=j
 flat:∀ (i:Nat) ct u d,cts[i]? = some ct→us[i]? = some u→row[i]? = some d→(∀ e,ct ≠ .l e)→RdR T w (fun _=>False) ct u d
 sl:∀ (i:Nat) e u rows,cts[i]? = some (.l e)→us[i]? = some u→row[i]? = some (.l rows)→DeepV T w (F i) (.l e) u (.l rows)
 kind:∀ (i:Nat) e d,cts[i]? = some (.l e)→row[i]? = some d→∃ rows,d=.l rows
theorem DeepRow.move {T:Tab} {w w' : World} {F:Nat→Nat→Prop} {cts:List CT} {us:List Value} {row:List D} (h:DeepRow T w F cts us row) (hs:w.heap.size≤w'.heap.size) (hb:∀ i b,F i b→w'.heap[b]? = w.heap[b]?):DeepRow T w' F cts us row :=
 ⟨h.len,h.rlen,fun i b hF=>jcM (h.lt i b hF) hs,h.inj,fun i ct u d a b c hc=>(h.flat i ct u d a b c hc).plain hc,fun i e u rows a b c=>(h.sl i e u rows a b c).move fun b hF=>hb i b hF,h.kind⟩
theorem DeepRow.arg {T:Tab} {w:World} {F:Nat→Nat→Prop} {cts:List CT} {us:List Value} {row:List D} (h:DeepRow T w F cts us row):ArgR T w (fun _=>False) (.agg us.toArray) (argG cts row):=by
 refine ⟨us,rfl,by simp [rowC,h.len],fun i c u hc hu=>?_⟩
 have hi:i < cts.length:=by rw [← h.len];exact (jbY.1 hu).1
 have hct:cts[i]? = some cts[i]:=jbN hi
 have hd:row[i]? = some (row.getD i default):=by
  have:i < row.length:=by rw [h.rlen];exact hi
  simp [jbT,jbN this]
 have hc' : c=ofD cts[i] (row.getD i default):=by
  unfold rowC at hc
  rw [jcf,jdN,hct] at hc
  have:=jbR hc
  rw [← this,jcv]
 subst hc'
 cases hk:cts[i] with
 | l e =>
   rw [hk] at hct
   obtain ⟨rows,hr⟩:=h.kind i e _ hct hd
   rw [hr] at hd ⊢
   exact (h.sl i e u rows hct hu hd).shared fun _ _ hx=>hx
 | i k =>
   rw [hk] at hct
   have:=h.flat i _ u _ hct hu hd (fun e he=>by cases he)
   generalize row.getD i default=d at this ⊢
   cases this with
   | int _ n hn=>exact ⟨rfl,hn⟩
 | b =>
   rw [hk] at hct
   have:=h.flat i _ u _ hct hu hd (fun e he=>by cases he)
   generalize row.getD i default=d at this ⊢
   cases this with
   | bool x=>rfl
 | s =>
   rw [hk] at hct
   have:=h.flat i _ u _ hct hu hd (fun e he=>by cases he)
   generalize row.getD i default=d at this ⊢
   cases this with
   | str x hx=>exact ⟨rfl,hx⟩
theorem DeepRow.set {T:Tab} {w w' : World} {F:Nat→Nat→Prop} {cts:List CT} {us:List Value} {row:List D} (h:DeepRow T w F cts us row) {i:Nat} {e:TypeId} {u:Value} {rows:List (List D)} (hct:cts[i]? = some (.l e)) (hu:us[i]? = some u)
 (hs:w.heap.size≤w'.heap.size) (hb:∀ b,b < w.heap.size→¬ F i b→w'.heap[b]? = w.heap[b]?) (hd:DeepV T w' (F i) (.l e) u (.l rows)):DeepRow T w' F cts us (row.set i (.l rows)):=by
 have hi:i < row.length:=by rw [h.rlen];exact (jbY.1 hct).1
 refine ⟨h.len,by rw [List.length_set];exact h.rlen,fun j b hF=>jcM (h.lt j b hF) hs,h.inj,fun j ct u' d a b c hc=>?_,fun j e' u' rows' a b c=>?_,fun j e' d a c=>?_⟩
 · by_cases ej:j=i
   · subst ej
     exact absurd (jbR (a.symm.trans hct)) (hc e)
   · rw [List.getElem?_set_ne (Ne.symm ej)] at c
     exact (h.flat j ct u' d a b c hc).plain hc
 · by_cases ej:j=i
   · subst ej
     rw [List.getElem?_set_self hi] at c
     cases jbR c
     cases jbR (a.symm.trans hct)
     cases jbR (b.symm.trans hu)
     exact hd
   · rw [List.getElem?_set_ne (Ne.symm ej)] at c
     exact (h.sl j e' u' rows' a b c).move fun x hx=>hb x (h.lt j x hx) fun hx' => ej (h.inj j i x hx hx')
 · by_cases ej:j=i
   · subst ej
     rw [List.getElem?_set_self hi] at c
     exact ⟨rows,(jbR c).symm⟩
   · rw [List.getElem?_set_ne (Ne.symm ej)] at c
     exact h.kind j e' d a c
theorem DeepRow.of_tup {w:World} {X:Nat→Prop} {bk:Nat→Nat→Prop} {j:Nat} {v:Value} {cts:List CT} {row:List D} (h:TupR Td w X bk j v (true,rowO cts row)) (hw:WfRow T cts row)
 (hlt:∀ j b,bk j b→b < w.heap.size) (hinj:∀ j j' b,bk j b→bk j' b→j=j'):∃ us:List Value,v=.agg us.toArray∧DeepRow T w (fun i=>bk (tix j i)) cts us row:=by
 obtain ⟨us,rfl,hl,hc⟩:=h.1 rfl
 have hl' : us.length=cts.length:=by rw [← hl];simp [rowO]
 have cell:∀ (i:Nat) ct u d,cts[i]? = some ct→us[i]? = some u→row[i]? = some d→ResC Td w X bk (tix j i) u (ofO ct d):=fun i ct u d a b c=>by
  refine (hc i (ofO ct d) u ?_ b).2
  show (rowO cts row)[i]? = _
  unfold rowO
  rw [jcf,jdN,a,jcv]
  simp [jbT,c]
 refine ⟨us,rfl,hl',hw.1,fun i b hb=>hlt _ b hb,fun i k b h1 h2=>?_,fun i ct u d a b c hne=>?_,fun i e u rows a b c=>?_,fun i e d a c=>?_⟩
 · have:=hinj _ _ b h1 h2
   unfold tix at this
   omega
 · have h1:=cell i ct u d a b c
   have h2:=hw.2 i ct d a c
   cases h2 with
   | int k n hn=>obtain ⟨rfl,_⟩:u=.int k n∧inK k n:=h1;exact .int k n hn
   | bool x=>obtain rfl:u=.bool x:=h1;exact .bool x
   | str x hx=>obtain ⟨rfl,_⟩:u=.string x∧x.size≤maxLen:=h1;exact .str x hx
   | nil e=>exact absurd rfl (hne e)
   | sl e=>exact absurd rfl (hne e)
 · have h1:OwnF Td w X (bk (tix j i)) e u rows:=cell i _ u _ a b c
   exact DeepV.off (b:=true) (OwnF.toDeep h1 rfl)
 · have h2:=hw.2 i _ d a c
   cases h2 with
   | nil e=>exact ⟨_,rfl⟩
   | sl e=>exact ⟨_,rfl⟩
def cSl:List D→Nat
 | []=>0
 | .l r :: ds=>ad r+cSl ds
 | _ :: ds=>cSl ds
def mkSl (mt:Int→ByteArray):Int→List D→List D
 | _,[]=>[]
 | k,.l r :: ds=>.l (ah mt k r) :: mkSl mt (k+ad r) ds
 | k,d :: ds=>d :: mkSl mt k ds
end
section
variable {mt:Int→ByteArray}
theorem DeepRow.wf {T:Tab} {w:World} {F:Nat→Nat→Prop} {cts:List CT} {us:List Value} {row:List D} (h:DeepRow T w F cts us row):WfRow T cts row:=by
 refine ⟨h.rlen,fun j ct d a b=>?_⟩
 have hj:j < us.length:=by rw [h.len];exact (jbY.1 a).1
 cases ct with
 | l e =>
   obtain ⟨rows,rfl⟩:=h.kind j e d a b
   exact (h.sl j e _ rows a (jbN hj) b).wf
 | i k=>exact (h.flat j _ _ d a (jbN hj) b (fun e he=>by cases he)).wf
 | b=>exact (h.flat j _ _ d a (jbN hj) b (fun e he=>by cases he)).wf
 | s=>exact (h.flat j _ _ d a (jbN hj) b (fun e he=>by cases he)).wf
structure MkREnd (T:Tab) (w w' : World) (F:Nat→Nat→Prop) (cts:List CT) (us:List Value) (row:List D):Prop where
 os:w'.os=w.os
 tape:w'.tape=w.tape
 output:w'.output=w.output
 size:w.heap.size≤w'.heap.size
 block:∀ b,b < w.heap.size→(∀ i, ¬ F i b)→w'.heap[b]? = w.heap[b]?
 deep:DeepRow T w' F cts us row
section
variable {T:Tab} {w w0 w1 w2:World} {F:Nat→Nat→Prop} {cts:List CT} {us:List Value} {row row' : List D}
theorem MkREnd.start (h:DeepRow T w F cts us row) (hb:Below w.heap.size w w0):MkREnd T w w0 F cts us row :=
 ⟨hb.os,hb.tape,hb.output,hb.size,fun b h1 _=>hb.block b h1,h.move hb.size fun i b hF=>hb.block b (h.lt i b hF)⟩
theorem MkREnd.step (h:MkREnd T w w1 F cts us row) {i:Nat} {e:TypeId} {u:Value} {rows:List (List D)} (hct:cts[i]? = some (.l e)) (hu:us[i]? = some u) (hm:MkEnd T w1 w2 (F i) e u rows):MkREnd T w w2 F cts us (row.set i (.l rows)) :=
 ⟨hm.os.trans h.os,hm.tape.trans h.tape,hm.output.trans h.output,jbV h.size hm.size,fun b h1 h2=>(hm.block b (jcM h1 h.size) (h2 i)).trans (h.block b h1 h2),h.deep.set hct hu hm.size hm.block hm.deep⟩
theorem MkREnd.gl (h:MkREnd T w w1 F cts us row) (hg:GlR T w (fun b=>∃ i,F i b)) (i:Nat):GlR T w1 (F i):=(hg.move ⟨h.size,fun b h1 h2=>h.block b h1 fun i hF=>h2 ⟨i,hF⟩⟩ fun b _ hb=>⟨i,hb⟩)
theorem MkREnd.cell (h:MkREnd T w w1 F cts us row) {b o:Nat} {u:Value} (hb:∀ i, ¬ F i b) (hl:b < w.heap.size) (hc:w.cell? ⟨b,o,none⟩=some u):w1.cell? ⟨b,o,none⟩=some u:=(World.cell?_of_block (h.block b hl hb)).trans hc
theorem MkEnd.cell {G:Nat→Prop} {e:TypeId} {v:Value} {rows:List (List D)} (h:MkEnd T w w1 G e v rows) {b o:Nat} {u:Value} (hb:¬ G b) (hl:b < w.heap.size) (hc:w.cell? ⟨b,o,none⟩=some u):w1.cell? ⟨b,o,none⟩=some u:=(World.cell?_of_block (h.block b hl hb)).trans hc
end
theorem qp (w:World) (cs:Array Value) (t:TypeId) (i:Nat) (u:Value) (h:cs[i]? = some u):(w.alloc (.cells cs t)).cell? ⟨w.heap.size,i,none⟩=some u:=by
 have e:(w.alloc (.cells cs t)).heap[w.heap.size]? = some (.cells cs t (0,0)):=heap_alloc_new w _
 unfold World.cell?
 rw [e]
 exact h
end
section
variable {T:Tab} {w w' : World} {cts:List CT} {us:List Value} {row:List D}
structure ReadRow (T:Tab) (w:World) (cts:List CT) (us:List Value) (row:List D):Prop where
 len:us.length=cts.length
 rlen:row.length=cts.length
 cell:∀ (i:Nat) ct u d,cts[i]? = some ct→us[i]? = some u→row[i]? = some d→RdR T w (fun _=>False) ct u d
theorem ReadRow.grow (h:ReadRow T w cts us row) (hs:w.heap.size≤w'.heap.size) (hb:∀ b,b < w.heap.size→w'.heap[b]? = w.heap[b]?):ReadRow T w' cts us row:=by
 refine ⟨h.len,h.rlen,fun i ct u d a b c=>?_⟩
 exact (h.cell i ct u d a b c).move ⟨hs,fun x hx _=>hb x hx⟩ fun _ _ hx=>hx
theorem ReadRow.arg (h:ReadRow T w cts us row):ArgR T w (fun _=>False) (.agg us.toArray) (argG cts row):=by
 refine ⟨us,rfl,by simp [rowC,h.len],fun i c u hc hu=>?_⟩
 have hi:i < cts.length:=by rw [← h.len];exact (jbY.1 hu).1
 have hct:cts[i]? = some cts[i]:=jbN hi
 have hd:row[i]? = some (row.getD i default):=by
  have:i < row.length:=by rw [h.rlen];exact hi
  simp [jbT,jbN this]
 have hc' : c=ofD cts[i] (row.getD i default):=by
  unfold rowC at hc
  rw [jcf,jdN,hct] at hc
  have:=jbR hc
  rw [← this,jcv]
 subst hc'
 have hr:=h.cell i _ u _ hct hu hd
 generalize row.getD i default=d at hr ⊢
 generalize cts[i]=ct at hr ⊢
 cases hr with
 | int _ n hn=>exact ⟨rfl,hn⟩
 | bool x=>rfl
 | str x hx=>exact ⟨rfl,hx⟩
 | nil e A c hc=>exact .nil e A c hc
 | sl e ty b o c rows vs h1 h2 h3 h4 h5 h6 h7 h8=>exact .sl e ty b o c rows vs h1 h2 h3 h4 h5 h6 h7 h8
theorem DeepRow.reads {F:Nat→Nat→Prop} (h:DeepRow T w F cts us row):ReadRow T w cts us row:=by
 refine ⟨h.len,h.rlen,fun i ct u d a b c=>?_⟩
 cases ct with
 | l e =>
   obtain ⟨rows,rfl⟩:=h.kind i e d a c
   exact (h.sl i e u rows a b c).shared fun _ _ hx=>hx
 | i k=>exact h.flat i _ u d a b c (fun e he=>by cases he)
 | b=>exact h.flat i _ u d a b c (fun e he=>by cases he)
 | s=>exact h.flat i _ u d a b c (fun e he=>by cases he)
theorem ReadRow.of_tup {X:Nat→Prop} {bk:Nat→Nat→Prop} {j:Nat} {v:Value} (h:TupR T w X bk j v (true,rowC cts row)) (hw:WfRow T cts row):∃ us:List Value,v=.agg us.toArray∧ReadRow T w cts us row:=by
 obtain ⟨us,rfl,hl,hc⟩:=h.1 rfl
 have hl' : us.length=cts.length:=by rw [← hl];simp [rowC]
 refine ⟨us,rfl,hl',hw.1,fun i ct u d a b c=>?_⟩
 have cell:ResC T w X bk (tix j i) u (ofD ct d):=by
  refine (hc i (ofD ct d) u ?_ b).2
  show (rowC cts row)[i]? = _
  unfold rowC
  rw [jcf,jdN,a,jcv]
  simp [jbT,c]
 have h2:=hw.2 i ct d a c
 cases h2 with
 | int k n hn=>obtain ⟨rfl,_⟩:u=.int k n∧inK k n:=cell;exact .int k n hn
 | bool x=>obtain rfl:u=.bool x:=cell;exact .bool x
 | str x hx=>obtain ⟨rfl,_⟩:u=.string x∧x.size≤maxLen:=cell;exact .str x hx
 | nil e=>exact RdR.move (X:=X) cell ⟨jb4 _,fun _ _ _=>rfl⟩ fun _ _ h=>h.elim
 | sl e ty rows=>exact RdR.move (X:=X) cell ⟨jb4 _,fun _ _ _=>rfl⟩ fun _ _ h=>h.elim
theorem RdR.slice {X:Nat→Prop} {e:TypeId} {u:Value} {d:D} (h:RdR T w X (.l e) u d):∃ A n c,u=.slice A n c:=by
 cases h with
 | nil e A c hc=>exact ⟨_,_,_,rfl⟩
 | sl e ty b o c rows vs=>exact ⟨_,_,_,rfl⟩
theorem oe {X:Nat→Prop} {bk:Nat→Nat→Prop} {v:Value} {cs:List CV} {b:Bool} (h:ResR T w X bk v (.tup [(true,cs),(false,[.b b])])):∃ x,v=.tuple #[x,.bool b]∧TupR T w X bk 0 x (true,cs):=by
 obtain ⟨arr,rfl,hl,hc⟩:=h
 match arr,hl with
 | [x,y],_ =>
   have h0:=hc 0 _ x rfl rfl
   obtain ⟨c,h1,h2,h3⟩:=(hc 1 _ y rfl rfl).2 rfl
   obtain rfl:CV.b b=c:=by simpa using h1
   obtain rfl:y=.bool b:=h3
   exact ⟨x,rfl,h0⟩
theorem lz {mt:Int→ByteArray}:∀ (r:List D) (k:Int),cSl (mkSl mt k r)=cSl r
 | [],k=>rfl
 | .l x :: r,k=>by simp only [mkSl,cSl,aN,lz r]
 | .i x :: r,k=>by simp only [mkSl,cSl,lz r]
 | .b x :: r,k=>by simp only [mkSl,cSl,lz r]
 | .s x :: r,k=>by simp only [mkSl,cSl,lz r]
theorem ReadRow.at_ (h:ReadRow T w cts us row) (i:Nat) {ct:CT} {u:Value} (a:cts[i]? = some ct) (b:us[i]? = some u):RdR T w (fun _=>False) ct u (row.getD i default):=by
 refine h.cell i ct u _ a b ?_
 have:i < row.length:=by rw [h.rlen];exact (jbY.1 a).1
 simp [jbT,jbN this]
theorem GlR.bel {X:Nat→Prop} (h:GlR T w X) (hb:Below w.heap.size w w'):GlR T w' X:=h.move ⟨hb.size,fun b hb' _=>hb.block b hb'⟩ fun _ _ h=>h
theorem ReadRow.bel (h:ReadRow T w cts us row) (hb:Below w.heap.size w w'):ReadRow T w' cts us row:=h.grow hb.size fun b h=>hb.block b h
theorem DeepRow.bel {F:Nat→Nat→Prop} (h:DeepRow T w F cts us row) (hb:Below w.heap.size w w'):DeepRow T w' F cts us row:=h.move hb.size fun i b hF=>hb.block b (h.lt i b hF)
theorem fv {X:Nat→Prop} {bk:Nat→Nat→Prop} {v:Value} {b:Bool} (h:ResR T w X bk v (.val false [.b b])):v=.bool b:=by
 obtain ⟨c,hc,hv⟩:=h
 obtain rfl:CV.b b=c:=by simpa using hc
 exact hv
theorem iC {X:Nat→Prop} {bk:Nat→Nat→Prop} {v:Value} {n:Int} (h:ResR T w X bk v (.val false [.i .i64 n])):v=.int .i64 n:=by
 obtain ⟨c,hc,hv⟩:=h
 obtain rfl:CV.i .i64 n=c:=by simpa using hc
 exact hv.1
def BoxAt (w:World) (b:Nat) (cs:Array Value):Prop:=b < w.heap.size∧∀ (i:Nat) u,cs[i]? = some u→w.cell? ⟨b,i,none⟩=some u
theorem BoxAt.new (w:World) (cs:Array Value) (t:TypeId):BoxAt (w.alloc (.cells cs t)) w.heap.size cs:=⟨by simp,fun i u h=>qp w cs t i u h⟩
theorem BoxAt.bel {b:Nat} {cs:Array Value} (h:BoxAt w b cs) (hb:Below w.heap.size w w'):BoxAt w' b cs:=⟨jcM h.1 hb.size,fun i u hu=>(hb.cell (p:=⟨b,i,none⟩) h.1).trans (h.2 i u hu)⟩
theorem BoxAt.mark {b:Nat} {cs:Array Value} {F:Nat→Nat→Prop} {row' : List D} (h:BoxAt w b cs) (hm:MkREnd T w w' F cts us row') (hF:∀ i, ¬ F i b):BoxAt w' b cs:=⟨jcM h.1 hm.size,fun i u hu=>hm.cell hF h.1 (h.2 i u hu)⟩
theorem MkREnd.below {F:Nat→Nat→Prop} {row' : List D} (h:MkREnd T w w' F cts us row') {B:Nat} (hF:∀ i b,F i b→B≤b) (hB:B≤w.heap.size):Below B w w' :=
 ⟨h.os,h.tape,h.output,h.size,fun b hb=>h.block b (jcM hb hB) fun i hi=>Nat.not_le_of_lt hb (hF i b hi)⟩
theorem MkREnd.glF {F:Nat→Nat→Prop} {row' : List D} (h:MkREnd T w w' F cts us row') (hg:GlR T w (fun b=>∃ i,F i b)):GlR T w' (fun _=>False) :=
 hg.move ⟨h.size,fun b h1 h2=>h.block b h1 fun i hF=>h2 ⟨i,hF⟩⟩ fun _ _ hx=>hx.elim
theorem GlR.far {W:World} {F:Nat→Nat→Prop} (h:GlR T W (fun _=>False)) (hb:Below W.heap.size W w) (hF:∀ i b,F i b→W.heap.size≤b):GlR T w (fun b=>∃ i,F i b) :=
 h.move ⟨hb.size,fun b hb' _=>hb.block b hb'⟩ fun b hb' ⟨i,hi⟩=>Nat.not_le_of_lt hb' (hF i b hi)
end
end Go.Proofs.YtdjfhmghebommaaGreatDoor.Ab
