/- The law FnRecords over data: printed by a program of this -/
import Derived.Test.YtcllpknipmcolaaGreatDoorCJg
import Derived.Test.YtcllpknipmcolaaGreatDoorCJq
namespace Go.Proofs.YtcllpknipmcolaaGreatDoor.Ab
open Go.RowKit
set_option linter.all false
set_option maxRecDepth 100000
set_option maxHeartbeats 2000000
def jar (e:TypeId):FSpec where
 pre args:=∃ rows:List (List D),args=[argS e rows]
 res args:=match args with
  | [.val _ [.sl _ _ rows]]=>.val false [.b (decide ((rows.length:Int) > 1048576))]
  | _=>.none
def lawB (e:TypeId):FSpec where
 pre args:=∃ rows:List (List D),args=[argS e rows]
 res _:=.val false [.b true]
theorem okBig:FOk Tryz.prog T 4 (jar 5):=by
 refine fok (env:=envL []) (N:=6) tabT ae mixed Tryz.func4 rfl Tryz.call4 Tryz.ntmps4 ?_
 rintro args ⟨rows,rfl⟩ hwf
 clear hwf
 refine ⟨by simp,?_⟩
 rw [Tryz.results4]
 repeat' first
  | (refine And.intro ?_ ?_)
  | (intro h;simp only [reduceCtorEq] at h;done)
  | (intro h;rw [h])
  | (intro h)
 all_goals first
  | (show av _=true;kernel_rfl)|(show aX _ _=true;kernel_rfl)|exact True.intro|exact Or.inr rfl|exact Or.inl rfl
  | rfl
  | skip
theorem vtS {a:ByteArray} {p:Prop} (h:(!(a.toList == a.toList))=true):p:=by simp at h
theorem vtB {b c:Bool} {p:Prop} (e:b=c) (h:(!(b == c))=true):p:=by subst e;simp at h
theorem vtZ {b c:Int} {p:Prop} (e:b=c) (h:(b != c)=true):p:=by subst e;simp at h
theorem vtT {b:Bool} {p:Prop} (e:b=true) (h:b=false):p:=by rw [e] at h;cases h
theorem vtF {b:Bool} {p:Prop} (e:b=false) (h:b=true):p:=by rw [e] at h;cases h
theorem vtN {b:Bool} {p:Prop} (e:b=true) (h:(!b)=true):p:=by rw [e] at h;cases h
theorem vtM {b:Bool} {p:Prop} (e:b=false) (h:(!b)=false):p:=by rw [e] at h;cases h
theorem vtQ {x:List D × Int} {b:List D} {p:Prop} (w:WfRow T cO b) (e:x.1=b) (h:(!decide (csD (rowC cO x.1)=b))=true):p:=by rw [e,aw w] at h;simp at h
theorem vtG {q:List D × Bool} {g:List D→ByteArray} {t:ByteArray} {p:Prop} (w:WfRow T cO q.1) (k:q.2=true→g q.1=t) (e:q.2=true) (h:(!((g (csD (rowC cO q.1))).toList == t.toList))=true):p:=by rw [aw w,k e] at h;simp at h
theorem nz0 {n:Int} (h:(n == 0)=false):n ≠ 0:=by rintro rfl;cases h
theorem xH {k r:Int} {n:Nat} (h0:0≤k) (h1:0≤r) (h:k+r≤n) (hn:n≤1048576):IntKind.i64.wrap (k+r)=k+r:=by
 exact wrapA h0 h1 h hn
theorem vtR {q:List D × Int} {r:List D→ByteArray} {s:ByteArray} {k:Int} (hs:s.size≤1048576) (w:WfRow T cO q.1) (h:0≤k∧0≤q.2∧k+q.2≤s.size∧r q.1=s.extract k.toNat (k+q.2).toNat):[CV.b ((r (csD (rowC cO q.1))).toList == (s.extract k.toNat (IntKind.i64.wrap (k+q.2)).toNat).toList)]=[CV.b true]:=by
 rw [xH h.1 h.2.1 h.2.2.1 hs,aw w,h.2.2.2];simp
theorem vtI {s:ByteArray} {k m:Int} {r:Prop} (hs:s.size≤1048576) (h:0≤k∧0≤m∧k+m≤s.size∧r):k≤IntKind.i64.wrap (k+m):=by
 rw [xH h.1 h.2.1 h.2.2.1 hs];omega
theorem vtJ {s:ByteArray} {k m:Int} {r:Prop} (hs:s.size≤1048576) (h:0≤k∧0≤m∧k+m≤s.size∧r):IntKind.i64.wrap (k+m)≤s.size:=by
 rw [xH h.1 h.2.1 h.2.2.1 hs];exact h.2.2.1
theorem vr {a:ByteArray} (h:(a.toList == (⟨#[]⟩:ByteArray).toList)=false):a.toList ≠ []:=by
 intro e;rw [e] at h;simp [ByteArray.toList_eq] at h
theorem s6 {a:ByteArray} (h:(a.toList == (⟨#[]⟩:ByteArray).toList)=true):a.toList=[]:=by
 have:=eq_of_beq h;rw [this];simp [ByteArray.toList_eq]
set_option maxHeartbeats 8000000 in
theorem core3 {po:ByteArray→List D × Bool} {rc:ByteArray→Int→List D × Int} {g r:List D→ByteArray} (F:LawF po rc g r) (h1:FOk Tryz.prog T 6 (spTx T cO SmO r)) (h2:FOk Tryz.prog T 7 (spTx T cO SmO r)) (h3:FOk Tryz.prog T 8 (spTx T cO SmO g)) (h4:FOk Tryz.prog T 9 (spPR cO rc)) (h5:FOk Tryz.prog T 12 (cZ cO po)) (h6:FOk Tryz.prog T 13 (cZ cO po)):FOk Tryz.prog T 3 (lawB 5):=by
 obtain ⟨g5,k5,q5⟩:=any5
 obtain ⟨g11,k11,q11⟩:=any11
 obtain ⟨g14,k14,q14⟩:=any14
 refine fok (env:=envL [(4,(jar 5)),(5, { pre:=fun a=>∃ rows:List (List D),rows.length≤1048576∧a=[argS 5 rows],res:=fun a=>(fun x:OLs=>.val true [.i .i64 x.a0,.i .i64 x.a1,.i .i64 x.a2,.sl false 3 x.sn,.i .i64 x.e.k,.i .i64 x.e.at_,.i .i64 x.e.c.id,.i .i64 x.e.c.ve,.i .i64 x.e.c.k,.s x.e.c.nm,.s x.e.c.cd,.i .i64 x.e.c.n,.s x.fr,.s x.tt,.i .i64 x.ce,.i .i64 x.ve,.sl false 59 x.rd]) (g5 a) }),(6,(spTx T cO SmO r)),(7,(spTx T cO SmO r)),(8,(spTx T cO SmO g)),(9,(spPR cO rc)),(10,(eqG cO)),(11, { pre:=fun a=>∃ rows:List (List D),rows.length≤1048576∧a=[argS 5 rows],res:=fun a=>(fun x:ByteArray=>.val false [.s x]) (g11 a) }),(12,(cZ cO po)),(13,(cZ cO po)),(14, { pre:=fun a=>∃ rows:List (List D),rows.length≤1048576∧a=[argS 5 rows],res:=fun a=>(fun x:(ByteArray × Int)=>.tup [(false,[.s x.1]),(false,[.i .i64 x.2])]) (g14 a) })]) (N:=111) tabT (aa okBig (aa k5 (aa h1 (aa h2 (aa h3 (aa h4 (aa ok10 (aa k11 (aa h5 (aa h6 (aa k14 ae))))))))))) mixed Tryz.func3 rfl Tryz.call3 Tryz.ntmps3 ?_
 rintro args ⟨rows,rfl⟩ hwf
 refine ⟨by simp,?_⟩
 clear hwf
 rw [Tryz.results3]
 by_cases hbig:(rows.length:Int) > 1048576
 · repeat' first
    | (refine And.intro ?_ ?_)
    | (intro h;exact absurd hbig (jcv h))
    | (intro h)
   all_goals first
    | (show av _=true;kernel_rfl)|(show aX _ _=true;kernel_rfl)|exact True.intro|exact Or.inr rfl|exact Or.inl rfl
    | exact ⟨_,rfl⟩
    | exact Eq.refl [CV.b true]
    | rfl
 have hr:rows.length≤1048576:=by omega
 have hbf:decide ((rows.length:Int) > 1048576)=false:=decide_eq_false hbig
 obtain ⟨X,hX⟩:∃ x,g5 [.val false [.sl false 5 rows]]=x:=⟨_,rfl⟩
 obtain ⟨Y,hY⟩:∃ x,g11 [.val false [.sl false 5 rows]]=x:=⟨_,rfl⟩
 obtain ⟨Z,hZ⟩:∃ x,g14 [.val false [.sl false 5 rows]]=x:=⟨_,rfl⟩
 have qx:=q5 [.val false [.sl false 5 rows]]
 have qt:=q11 [.val false [.sl false 5 rows]]
 have qd:=q14 [.val false [.sl false 5 rows]]
 rw [hX] at qx
 rw [hY] at qt
 rw [hZ] at qd
 clear k5 k11 k14 q5 q11 q14 h1 h2 h3 h4 h5 h6 hbig
 have hop:OpD (csD [.i .i64 X.a0,.i .i64 X.a1,.i .i64 X.a2,.sl false 3 X.sn,.i .i64 X.e.k,.i .i64 X.e.at_,.i .i64 X.e.c.id,.i .i64 X.e.c.ve,.i .i64 X.e.c.k,.s X.e.c.nm,.s X.e.c.cd,.i .i64 X.e.c.n,.s X.fr,.s X.tt,.i .i64 X.ce,.i .i64 X.ve,.sl false 59 X.rd]):=⟨X,rfl,qx⟩
 have ow:=hop.wf
 have sr:=F.rsz _ hop
 have hE:=F.nil _ hop
 have hbk:=F.back _ hop
 have hnn:=F.none _ hop
 have hos:=hop.sm
 obtain ⟨S,hS⟩:∃ x,r (csD [.i .i64 X.a0,.i .i64 X.a1,.i .i64 X.a2,.sl false 3 X.sn,.i .i64 X.e.k,.i .i64 X.e.at_,.i .i64 X.e.c.id,.i .i64 X.e.c.ve,.i .i64 X.e.c.k,.s X.e.c.nm,.s X.e.c.cd,.i .i64 X.e.c.n,.s X.fr,.s X.tt,.i .i64 X.ce,.i .i64 X.ve,.sl false 59 X.rd])=x:=⟨_,rfl⟩
 obtain ⟨G,hG⟩:∃ x,g (csD [.i .i64 X.a0,.i .i64 X.a1,.i .i64 X.a2,.sl false 3 X.sn,.i .i64 X.e.k,.i .i64 X.e.at_,.i .i64 X.e.c.id,.i .i64 X.e.c.ve,.i .i64 X.e.c.k,.s X.e.c.nm,.s X.e.c.cd,.i .i64 X.e.c.n,.s X.fr,.s X.tt,.i .i64 X.ce,.i .i64 X.ve,.sl false 59 X.rd])=x:=⟨_,rfl⟩
 obtain ⟨w,hW⟩:∃ x,rc (⟨#[97,98]⟩++S++⟨#[99,100]⟩) 2=x:=⟨_,rfl⟩
 obtain ⟨m,hM⟩:∃ x,rc Z.1 Z.2=x:=⟨_,rfl⟩
 obtain ⟨P,hP⟩:∃ x,po Y=x:=⟨_,rfl⟩
 rw [hS] at sr hE hbk hnn
 rw [hG] at hE
 rw [show rc (AB++S++CD) 2=w from hW] at hbk hnn
 have sz1:(⟨#[97,98]⟩:ByteArray).size+S.size≤maxLen:=jcr (Nat.add_le_add_left sr _) (by decide)
 have sz2:((⟨#[97,98]⟩:ByteArray)++S).size+(⟨#[99,100]⟩:ByteArray).size≤maxLen:=by rw [jcF];exact jcr (Nat.add_le_add_right (Nat.add_le_add_left sr _) _) (by decide)
 have sz3:((⟨#[97,98]⟩:ByteArray)++S++⟨#[99,100]⟩).size≤1048576:=by rw [jcF,jcF];exact jcr (Nat.add_le_add_right (Nat.add_le_add_left sr _) _) (by decide)
 have tz:Y.size≤1048576:=jcr qt (by decide)
 have dz:Z.1.size≤1048576:=jcr qd.1 (by decide)
 have pz:=F.po1 Y tz
 have mz:=F.rc1 Z.1 Z.2 dz
 have mt:=F.rct Z.1 Z.2
 have xz:=F.rc1 (⟨#[97,98]⟩++S++⟨#[99,100]⟩) 2 sz3
 rw [hP] at pz
 rw [hM] at mz mt
 rw [hW] at xz
 cases hs:(S.toList == (⟨#[]⟩:ByteArray).toList)
 · have hs:(S.toList == (⟨#[]⟩:ByteArray).toList)=false:=hs
   have hb:=hbk (vr hs)
   have hn:=congrArg Prod.snd hb
   have hx:=congrArg Prod.fst hb
   repeat' first
    | (refine And.intro ?_ ?_)
    | (rw [hX])
    | (rw [hS])
    | (rw [hG])
    | (rw [hW])
    | (rw [hY])
    | (rw [hP])
    | (rw [hZ])
    | (rw [hM])
    | (intro h;simp only [reduceCtorEq] at h;done)
    | (intro h;exact vtT hbf h)
    | (intro h;exact vtF hbf h)
    | (intro h;exact vtS h)
    | (intro h;exact vtB rfl h)
    | (intro h;exact vtB hE h)
    | (intro h;exact vtF hs h)
    | (intro h;exact vtT hs h)
    | (intro h;exact vtN hs h)
    | (intro h;exact vtM hs h)
    | (intro h;exact vtZ hn h)
    | (intro h;exact vtQ ow hx h)
    | (intro h;exact vtG pz.1 pz.2.2 (by assumption) h)
    | (intro h;rw [h])
    | (intro h)
   all_goals first
    | (show av _=true;kernel_rfl)|(show aX _ _=true;kernel_rfl)|exact True.intro|exact Or.inr rfl|exact Or.inl rfl
    | exact ⟨_,rfl⟩
    | exact ⟨_,hr,rfl⟩
    | exact Eq.refl [CV.b true]
    | exact ⟨_,ow,hos,rfl⟩
    | exact ⟨_,_,sz3,rfl⟩
    | exact ⟨_,tz,rfl⟩
    | exact ⟨_,_,dz,rfl⟩
    | exact sz1
    | exact sz2
    | exact ⟨_,pz.1,pz.2.1,rfl⟩
    | exact ⟨_,mz.1,mz.2,rfl⟩
    | exact ⟨_,_,xz.1,ow,rfl⟩
    | exact (mt (nz0 (by assumption))).1
    | exact vtI dz (mt (nz0 (by assumption)))
    | exact vtJ dz (mt (nz0 (by assumption)))
    | exact vtR dz mz.1 (mt (nz0 (by assumption)))
    | skip
 · have hs:(S.toList == (⟨#[]⟩:ByteArray).toList)=true:=hs
   have hn:=hnn (s6 hs)
   have hx:True:=trivial
   repeat' first
    | (refine And.intro ?_ ?_)
    | (rw [hX])
    | (rw [hS])
    | (rw [hG])
    | (rw [hW])
    | (rw [hY])
    | (rw [hP])
    | (rw [hZ])
    | (rw [hM])
    | (intro h;simp only [reduceCtorEq] at h;done)
    | (intro h;exact vtT hbf h)
    | (intro h;exact vtF hbf h)
    | (intro h;exact vtS h)
    | (intro h;exact vtB rfl h)
    | (intro h;exact vtB hE h)
    | (intro h;exact vtF hs h)
    | (intro h;exact vtT hs h)
    | (intro h;exact vtN hs h)
    | (intro h;exact vtM hs h)
    | (intro h;exact vtZ hn h)
    | (intro h;exact vtQ ow hx h)
    | (intro h;exact vtG pz.1 pz.2.2 (by assumption) h)
    | (intro h;rw [h])
    | (intro h)
   all_goals first
    | (show av _=true;kernel_rfl)|(show aX _ _=true;kernel_rfl)|exact True.intro|exact Or.inr rfl|exact Or.inl rfl
    | exact ⟨_,rfl⟩
    | exact ⟨_,hr,rfl⟩
    | exact Eq.refl [CV.b true]
    | exact ⟨_,ow,hos,rfl⟩
    | exact ⟨_,_,sz3,rfl⟩
    | exact ⟨_,tz,rfl⟩
    | exact ⟨_,_,dz,rfl⟩
    | exact sz1
    | exact sz2
    | exact ⟨_,pz.1,pz.2.1,rfl⟩
    | exact ⟨_,mz.1,mz.2,rfl⟩
    | exact ⟨_,_,xz.1,ow,rfl⟩
    | exact (mt (nz0 (by assumption))).1
    | exact vtI dz (mt (nz0 (by assumption)))
    | exact vtJ dz (mt (nz0 (by assumption)))
    | exact vtR dz mz.1 (mt (nz0 (by assumption)))
    | skip
end Go.Proofs.YtcllpknipmcolaaGreatDoor.Ab
namespace Go.Proofs.YtcllpknipmcolaaGreatDoor
open Go.ChangeShapes Go.WideShapes Go.ChangeAt Go.RowKit Ab
set_option linter.all false
set_option maxRecDepth 100000
theorem law3:FOk Tryz.prog T 3 (Ab.lawB 5):=Ab.core3 Ab.lawF okR6 okR7 Ab.ok8 Ab.rcX_i Ab.poX_i Ab.poX_s
theorem oS:[22,5].all (pZ Tryz.prog T [22,5])=true:=by kernel_rfl
theorem ln {H:Type} {enc:TypeId × Value→H} (W:World) {base:Nat} (hL:GlR T W (fun _=>False)) {v0:Value} {d0:DataW H} {p0:List MemPlace} (k0:Value.okWide Tryz.prog W .any base 22 v0) (h0:DataW.Trod enc Tryz.prog W 0 (fun _=>true) true 22 v0 d0 p0) :
 Calls Tryz.prog 3 #[v0] W fun e W' => e=.returned (.bool true)∧Below W.heap.size W W' := by
 obtain ⟨a,n,c,rfl⟩:=okWide_slice Tryz.underlying22 k0
 obtain ⟨m0,t0⟩:=h0
 obtain ⟨ty0,r0,e0,w0⟩:=dQ tabT oS m0 22 _ _ (by decide) t0
 obtain rfl:⟨false,[.l 5],_,_,_,_⟩=ty0:=jcn e0
 have g0:RowR T W (fun _=>False) [.l 5] [.slice a n c] r0:=w0
 refine (law3.ok rfl W (fun _=>False) [argS 5 (r0.getD 0 default).rows] [.slice a n c] (fun b h=>h.elim) (ArgsR.cons g0.argS ArgsR.nil) hL ⟨_,rfl⟩).mono fun e W' ⟨v,bk,he,hb,hr,_⟩=>?_
 obtain ⟨c',hc,hv⟩:=hr
 obtain rfl:CV.b true=c' := by simpa using hc
 subst he
 refine ⟨?_,hb⟩
 have hv:v=.bool true:=hv
 rw [hv]
end Go.Proofs.YtcllpknipmcolaaGreatDoor
