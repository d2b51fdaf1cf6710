/- A part. -/
import Derived.Test.YtdjfhmghebommaaGreatDoorDMo
namespace Go.Proofs.YtdjfhmghebommaaGreatDoor.Ab
open Go.RowKit
set_option linter.all false
section
variable {mt:Int→ByteArray}
def iw (mt:Int→ByteArray) (e:TypeId) (n:Nat):FSpec where
 pre args:=∃ (rows:List (List D)) (k:Int),1≤k∧k+ad rows≤4611686018427387904∧WfD T (.l e) (.l rows)∧wD (.l rows) < n∧args=[argS e (ah mt k rows),.val false [.i .i64 k]]
 res args:=match args with
  | [.val _ [.sl _ _ rows],.val _ [.i _ k]]=>.val false [.i .i64 (k+ad rows)]
  | _=>.none
def spHd (mt:Int→ByteArray) (e:TypeId):FSpec where
 pre args:=∃ (rows:List (List D)) (k:Int),1≤k∧k+ad rows≤4611686018427387904∧WfD T (.l e) (.l rows)∧args=[argS e (ah mt k rows),.val false [.i .i64 k]]
 res args:=match args with
  | [.val _ [.sl _ _ rows],.val _ [.i _ k]]=>.val false [.i .i64 (k+ad rows)]
  | _=>.none
theorem FOk.held {P:Program} {f:FuncId} {e:TypeId} (h:∀ n,FOk P T f (iw mt e n)):FOk P T f (spHd mt e) :=
 FOk.lift (s:=fun n=>iw mt e n) h (fun args ⟨rows,k,h1,h2,h3,h4⟩=>⟨wD (.l rows)+1,rows,k,h1,h2,h3,jcO _,h4⟩) (fun n=>rfl)
theorem WfD.at_ {e:TypeId} {ty:Ty} {rows:List (List D)} (h:WfD T (.l e) (.l rows)) (he:T e=some ty) {k:Nat} (hk:k < rows.length):WfRow T ty.cts (rows.getD k []):=by
 have hrow:rows[k]? = some (rows.getD k []):=by simp [jbT,jbN hk]
 cases h with
 | nil=>exact absurd hk (jcE _)
 | sl e ty' rows h1 h2 h3 h4 =>
   obtain rfl:=jbR (h1.symm.trans he)
   exact ⟨h3 k _ hrow,fun j ct d a b=>h4 k j ct d _ hrow a b⟩
theorem WfD.short {e:TypeId} {rows:List (List D)} (h:WfD T (.l e) (.l rows)):rows.length≤maxLen:=by
 cases h with
 | nil=>exact jbP _
 | sl e ty' rows h1 h2 h3 h4=>exact h2
theorem WfRow.slW {e:TypeId} {cts:List CT} {r:List D} (h:WfRow T (.l e :: cts) r):∃ x r',r=.l x :: r' ∧ WfD T (.l e) (.l x)∧WfRow T cts r' := by
 obtain ⟨d,r',rfl,hd,hr⟩:=h.cut
 cases hd with
 | nil=>exact ⟨_,_,rfl,.nil e,hr⟩
 | sl _ ty rows a b c d=>exact ⟨_,_,rfl,.sl e ty rows a b c d,hr⟩
theorem nW {i n:Nat} (hi:i < n) (hn:n≤maxLen):IntKind.i64.wrap ((i:Int)+1)=((i+1:Nat):Int):=by
 simp only [maxLen] at hn
 rw [IntKind.wrap_i64];omega
theorem fT {f:Int→Int→Snap} {r r' a a' : Int} (h:r=r') (h2:a=a'):f r a=f r' a' := by rw [h,h2]
theorem hdS {a:ByteArray} {p:Prop} (h:(!(a.toList == a.toList))=true):p:=by simp at h
theorem hdZ {a b:Int} {p:Prop} (e:a=b) (h:(a != b)=true):p:=by subst e;simp at h
end
set_option maxRecDepth 100000
set_option maxHeartbeats 2000000
def digX (k:Int):ByteArray:=bytesOf ([]++[[D.i (IntKind.u8.wrap (IntKind.i64.wrap (48+k.tmod 10)))]])
def mtD:Nat→Int→ByteArray→ByteArray
 | 0,_,t=>t
 | n+1,k,t=>if k > 0 then mtD n (k.tdiv 10) (digX k++t) else t
theorem yf {n:Nat} {k:Int} {t:ByteArray} (h:¬ k > 0):mtD n k t=t:=by
 cases n with
 | zero=>rfl
 | succ n=>rw [mtD,if_neg h]
theorem jaS {n:Nat} {k:Int} {t:ByteArray} (h:k > 0):mtD (n+1) k t=mtD n (k.tdiv 10) (digX k++t):=by rw [mtD,if_pos h]
theorem nL (k:Int):(digX k).size=1:=rfl
theorem xA {m:Nat} {x:Int} (h0:0 < x) (h:x < 2 ^ m):∃ g,m=g+1∧0≤x.tdiv 10∧x.tdiv 10 < 2 ^ g:=by
 cases m with
 | zero=>simp at h;omega
 | succ g =>
   refine ⟨g,rfl,Int.tdiv_nonneg (by omega) (by decide),?_⟩
   rw [Int.tdiv_eq_ediv_of_nonneg (by omega)]
   rw [Int.pow_succ] at h
   omega
theorem ok40:FOk Tryz.prog T 40 (spMT fun k=>⟨#[109]⟩++mtD 63 k ⟨#[]⟩):=by
 refine fok (env:=envL []) (N:=20) tabT af mixed Tryz.func40 rfl Tryz.call40 Tryz.ntmps40 ?_
 rintro args ⟨k,h1,h2,rfl⟩ hwf
 clear hwf
 refine ⟨by simp,?_⟩
 rw [Tryz.results40]
 repeat' first
  | refine And.intro ?_ ?_
  | (intro h;simp only [reduceCtorEq] at h;done)
  | (intro h;exact absurd (jbO h) (by omega))
  | intro h
 all_goals first
  | (show aa _=true;kernel_rfl)|(show am _ _=true;kernel_rfl)|exact True.intro|exact Or.inr rfl|exact Or.inl rfl
  | skip
 refine ap (Q:=_) [0,3] [] (fun m st=>∃ (x:Int) (t:ByteArray),st=([.val false [.i .i64 x],.val false [.s t]],[])∧0≤x∧x≤4611686018427387904∧x < 2 ^ m∧t.size+m≤63∧mtD m x t=mtD 63 k ⟨#[]⟩) ?_ ?_
 · exact ⟨rfl,63,k,_,rfl,by omega,h2,by omega,jb4 _,rfl⟩
 rintro m st ⟨x,t,rfl,h3,hx,h4,h5,h6⟩
 repeat' first
  | refine And.intro ?_ ?_
  | (intro h;simp only [reduceCtorEq] at h;done)
  | intro h
 all_goals first
  | (show aa _=true;kernel_rfl)|(show am _ _=true;kernel_rfl)|exact True.intro|exact Or.inr rfl|exact Or.inl rfl
  | exact absurd h (by decide)
  | (show aT _ _;exact rfl)
  | (have ht:=Int.tmod_nonneg 10 h3
     have ht2:=Int.tmod_lt_of_pos x (show (0:Int) < 10 by decide)
     have e1:IntKind.i64.min = -9223372036854775808:=by decide
     have e2:IntKind.i64.max=9223372036854775807:=by decide
     first
      | (rw [e1];omega)
      | (rw [e2];omega)
      | (show (digX x).size+t.size≤maxLen;rw [nL];simp only [maxLen];omega))
  | (have h7:x > 0:=jbO (by assumption)
     obtain ⟨g,rfl,h8,h9⟩:=xA h7 h4
     have h10:x.tdiv 10≤4611686018427387904:=by rw [Int.tdiv_eq_ediv_of_nonneg h3];omega
     refine ⟨g,jcO _,x.tdiv 10,digX x++t,?_,h8,h10,h9,by rw [jb9,nL];omega,(jaS h7).symm.trans h6⟩
     first
      | rfl
      | exact congrArg (fun z:Int=>(([.val false [.i .i64 z],.val false [.s (digX x++t)]],[]):Snap)) (IntWalk.i64_in _ (by omega)))
  | (have h7:¬ x > 0:=jbZ (by assumption)
     have hE:=(yf h7).symm.trans h6
     first
      | (show (⟨#[109]⟩:ByteArray).size+t.size≤maxLen;show 1+t.size≤maxLen;simp only [maxLen];omega)
      | exact congrArg (fun z:ByteArray=>[CV.s ((⟨#[109]⟩:ByteArray)++z)]) hE)
  | skip
theorem hd33n (mt:Int→ByteArray) (hmt:FOk Tryz.prog T 40 (spMT mt)) (n:Nat):FOk Tryz.prog T 33 (iw mt 3 n):=by
 refine fok (env:=envL []) (N:=21) tabT af mixed Tryz.func33 rfl Tryz.call33 Tryz.ntmps33 ?_
 rintro args ⟨rows,k,h1,h2,wf,hwn,rfl⟩ hwf
 clear hwf
 have hs:=wf.short
 refine ⟨by simp,?_⟩
 rw [Tryz.results33]
 repeat' first
  | refine And.intro ?_ ?_
  | (intro h;simp only [reduceCtorEq] at h;done)
  | intro h
 all_goals first
  | (show aa _=true;kernel_rfl)|(show am _ _=true;kernel_rfl)|exact True.intro|exact Or.inr rfl|exact Or.inl rfl
  | skip
 refine ap (Q:=_) [0,1,5] [] (fun m st=>∃ j:Nat,st=([argS 3 (ah mt k rows),.val false [.i .i64 (k+ad (rows.take j))],.val false [.i .i64 (j:Int)]],[])∧j≤rows.length∧m=rows.length - j) ?_ ?_
 · refine ⟨rfl,rows.length,0,?_,jbP _,rfl⟩
   exact congrArg (fun z:Int=>(([argS 3 (ah mt k rows),.val false [.i .i64 z],.val false [.i .i64 0]],[]):Snap)) (show k=k+((0:Nat):Int) by omega)
 rintro m st ⟨j,rfl,hj,rfl⟩
 have hml:=aK (mt:=mt) rows k
 by_cases hge:rows.length≤j
 · have ht:rows.take j=rows:=jcr (by omega)
   repeat' first
    | refine And.intro ?_ ?_
    | (intro h;simp only [reduceCtorEq] at h;done)
    | (intro h;exact absurd (jbO h) (by rw [hml];omega))
    | intro h
   all_goals first
    | (show aa _=true;kernel_rfl)|(show am _ _=true;kernel_rfl)|exact True.intro|exact Or.inr rfl|exact Or.inl rfl
    | exact rfl
    | exact congrArg (fun z:Int=>[CV.i .i64 z]) (by rw [ht,aN])
    | skip
 have hlt:j < rows.length:=by omega
 obtain ⟨x0,r0,hr,hr0⟩:=WfRow.int_ (wf.at_ (show T 3=some _ from rfl) hlt)
 obtain rfl:=hr0.end_
 clear hr0
 have hrow:=cv (mt:=mt) (k:=k) hlt
 rw [hr] at hrow
 have hc:=bd hlt
 have hc2:=bP rows (j+1)
 rw [hr] at hc
 have hc3:cRow [.i x0]=1+0:=rfl
 rw [hc3] at hc
 obtain ⟨q,hq⟩:∃ q,(k+ad (rows.take j))=q:=⟨_,rfl⟩
 have hnext:k+(ad (rows.take (j+1)):Int)=q+1:=by omega
 have hq1:1≤q:=by omega
 have hq2:q+1≤4611686018427387904:=by omega
 rw [hq] at hrow
 have hM:(ah mt k rows).getD (Int.toNat (j:Int)) []=[.i (q)]:=hrow
 simp only [hq]
 clear hrow hc hc2 hc3
 have hw0:IntKind.i64.wrap (q+1)=q+1:=IntWalk.i64_in _ (by omega)
 repeat' first
  | refine And.intro ?_ ?_
  | (rw [hM])
  | (intro h;simp only [reduceCtorEq] at h;done)
  | (rw [hw0])
  | (intro h;exact hdS h)
  | (intro h;exact hdZ rfl h)
  | (intro h;exact absurd (jbO h) (by omega))
  | (intro h;exact absurd (jbZ h) (by rw [hml];omega))
  | intro h
 all_goals first
  | (show aa _=true;kernel_rfl)|(show am _ _=true;kernel_rfl)|exact True.intro|exact Or.inr rfl|exact Or.inl rfl
  | exact rfl
  | with_reducible exact jb2 _
  | (show (j:Int) < (((ah mt k rows)).length:Int);rw [hml];omega)
  | (show (Int.toNat (j:Int)) < _;rw [hml,jca];exact hlt)
  | exact ⟨_,by omega,by omega,rfl⟩
  | (refine ⟨rows.length - (j+1),by omega,j+1,?_,by omega,rfl⟩
     exact fT (f:=fun y z=>(([argS 3 (ah mt k rows),.val false [.i .i64 y],.val false [.i .i64 z]],[]):Snap)) (by first|exact hnext.symm|omega) (nW hlt hs))
  | skip
theorem hd33 (mt:Int→ByteArray) (hmt:FOk Tryz.prog T 40 (spMT mt)):FOk Tryz.prog T 33 (spHd mt 3):=FOk.held (hd33n mt hmt)
theorem hd67n (mt:Int→ByteArray) (hmt:FOk Tryz.prog T 40 (spMT mt)) (n:Nat):FOk Tryz.prog T 67 (iw mt 9 n):=by
 refine fok (env:=envL [(40,(spMT mt))]) (N:=22) tabT (ac hmt af) mixed Tryz.func67 rfl Tryz.call67 Tryz.ntmps67 ?_
 rintro args ⟨rows,k,h1,h2,wf,hwn,rfl⟩ hwf
 clear hwf
 have hs:=wf.short
 refine ⟨by simp,?_⟩
 rw [Tryz.results67]
 repeat' first
  | refine And.intro ?_ ?_
  | (intro h;simp only [reduceCtorEq] at h;done)
  | intro h
 all_goals first
  | (show aa _=true;kernel_rfl)|(show am _ _=true;kernel_rfl)|exact True.intro|exact Or.inr rfl|exact Or.inl rfl
  | skip
 refine ap (Q:=_) [0,1,5] [] (fun m st=>∃ j:Nat,st=([argS 9 (ah mt k rows),.val false [.i .i64 (k+ad (rows.take j))],.val false [.i .i64 (j:Int)]],[])∧j≤rows.length∧m=rows.length - j) ?_ ?_
 · refine ⟨rfl,rows.length,0,?_,jbP _,rfl⟩
   exact congrArg (fun z:Int=>(([argS 9 (ah mt k rows),.val false [.i .i64 z],.val false [.i .i64 0]],[]):Snap)) (show k=k+((0:Nat):Int) by omega)
 rintro m st ⟨j,rfl,hj,rfl⟩
 have hml:=aK (mt:=mt) rows k
 by_cases hge:rows.length≤j
 · have ht:rows.take j=rows:=jcr (by omega)
   repeat' first
    | refine And.intro ?_ ?_
    | (intro h;simp only [reduceCtorEq] at h;done)
    | (intro h;exact absurd (jbO h) (by rw [hml];omega))
    | intro h
   all_goals first
    | (show aa _=true;kernel_rfl)|(show am _ _=true;kernel_rfl)|exact True.intro|exact Or.inr rfl|exact Or.inl rfl
    | exact rfl
    | exact congrArg (fun z:Int=>[CV.i .i64 z]) (by rw [ht,aN])
    | skip
 have hlt:j < rows.length:=by omega
 obtain ⟨x0,r0,hr,hr0⟩:=WfRow.str_ (wf.at_ (show T 9=some _ from rfl) hlt)
 obtain rfl:=hr0.end_
 clear hr0
 have hrow:=cv (mt:=mt) (k:=k) hlt
 rw [hr] at hrow
 have hc:=bd hlt
 have hc2:=bP rows (j+1)
 rw [hr] at hc
 have hc3:cRow [.s x0]=1+0:=rfl
 rw [hc3] at hc
 obtain ⟨q,hq⟩:∃ q,(k+ad (rows.take j))=q:=⟨_,rfl⟩
 have hnext:k+(ad (rows.take (j+1)):Int)=q+1:=by omega
 have hq1:1≤q:=by omega
 have hq2:q+1≤4611686018427387904:=by omega
 rw [hq] at hrow
 have hM:(ah mt k rows).getD (Int.toNat (j:Int)) []=[.s (mt (q))]:=hrow
 simp only [hq]
 clear hrow hc hc2 hc3
 have hw0:IntKind.i64.wrap (q+1)=q+1:=IntWalk.i64_in _ (by omega)
 repeat' first
  | refine And.intro ?_ ?_
  | (rw [hM])
  | (intro h;simp only [reduceCtorEq] at h;done)
  | (rw [hw0])
  | (intro h;exact hdS h)
  | (intro h;exact hdZ rfl h)
  | (intro h;exact absurd (jbO h) (by omega))
  | (intro h;exact absurd (jbZ h) (by rw [hml];omega))
  | intro h
 all_goals first
  | (show aa _=true;kernel_rfl)|(show am _ _=true;kernel_rfl)|exact True.intro|exact Or.inr rfl|exact Or.inl rfl
  | exact rfl
  | with_reducible exact jb2 _
  | (show (j:Int) < (((ah mt k rows)).length:Int);rw [hml];omega)
  | (show (Int.toNat (j:Int)) < _;rw [hml,jca];exact hlt)
  | exact ⟨_,by omega,by omega,rfl⟩
  | (refine ⟨rows.length - (j+1),by omega,j+1,?_,by omega,rfl⟩
     exact fT (f:=fun y z=>(([argS 9 (ah mt k rows),.val false [.i .i64 y],.val false [.i .i64 z]],[]):Snap)) (by first|exact hnext.symm|omega) (nW hlt hs))
  | skip
theorem hd67 (mt:Int→ByteArray) (hmt:FOk Tryz.prog T 40 (spMT mt)):FOk Tryz.prog T 67 (spHd mt 9):=FOk.held (hd67n mt hmt)
theorem jbh (mt:Int→ByteArray) (hmt:FOk Tryz.prog T 40 (spMT mt)) (n:Nat):FOk Tryz.prog T 111 (iw mt 147 n):=by
 refine fok (env:=envL []) (N:=31) tabT af mixed Tryz.func111 rfl Tryz.call111 Tryz.ntmps111 ?_
 rintro args ⟨rows,k,h1,h2,wf,hwn,rfl⟩ hwf
 clear hwf
 have hs:=wf.short
 refine ⟨by simp,?_⟩
 rw [Tryz.results111]
 repeat' first
  | refine And.intro ?_ ?_
  | (intro h;simp only [reduceCtorEq] at h;done)
  | intro h
 all_goals first
  | (show aa _=true;kernel_rfl)|(show am _ _=true;kernel_rfl)|exact True.intro|exact Or.inr rfl|exact Or.inl rfl
  | skip
 refine ap (Q:=_) [0,1,5] [] (fun m st=>∃ j:Nat,st=([argS 147 (ah mt k rows),.val false [.i .i64 (k+ad (rows.take j))],.val false [.i .i64 (j:Int)]],[])∧j≤rows.length∧m=rows.length - j) ?_ ?_
 · refine ⟨rfl,rows.length,0,?_,jbP _,rfl⟩
   exact congrArg (fun z:Int=>(([argS 147 (ah mt k rows),.val false [.i .i64 z],.val false [.i .i64 0]],[]):Snap)) (show k=k+((0:Nat):Int) by omega)
 rintro m st ⟨j,rfl,hj,rfl⟩
 have hml:=aK (mt:=mt) rows k
 by_cases hge:rows.length≤j
 · have ht:rows.take j=rows:=jcr (by omega)
   repeat' first
    | refine And.intro ?_ ?_
    | (intro h;simp only [reduceCtorEq] at h;done)
    | (intro h;exact absurd (jbO h) (by rw [hml];omega))
    | intro h
   all_goals first
    | (show aa _=true;kernel_rfl)|(show am _ _=true;kernel_rfl)|exact True.intro|exact Or.inr rfl|exact Or.inl rfl
    | exact rfl
    | exact congrArg (fun z:Int=>[CV.i .i64 z]) (by rw [ht,aN])
    | skip
 have hlt:j < rows.length:=by omega
 obtain ⟨x0,r0,hr,hr0⟩:=WfRow.int_ (wf.at_ (show T 147=some _ from rfl) hlt)
 obtain ⟨x1,r1,rfl,hr1⟩:=WfRow.int_ hr0
 obtain rfl:=hr1.end_
 clear hr1
 have hrow:=cv (mt:=mt) (k:=k) hlt
 rw [hr] at hrow
 have hc:=bd hlt
 have hc2:=bP rows (j+1)
 rw [hr] at hc
 have hc3:cRow [.i x0,.i x1]=1+(1+0):=rfl
 rw [hc3] at hc
 obtain ⟨q,hq⟩:∃ q,(k+ad (rows.take j))=q:=⟨_,rfl⟩
 have hnext:k+(ad (rows.take (j+1)):Int)=q+1+1:=by omega
 have hq1:1≤q:=by omega
 have hq2:q+1+1≤4611686018427387904:=by omega
 rw [hq] at hrow
 have hM:(ah mt k rows).getD (Int.toNat (j:Int)) []=[.i (q),.i (q+1)]:=hrow
 simp only [hq]
 clear hrow hc hc2 hc3
 have hw0:IntKind.i64.wrap (q+1)=q+1:=IntWalk.i64_in _ (by omega)
 have hw1:IntKind.i64.wrap (q+1+1)=q+1+1:=IntWalk.i64_in _ (by omega)
 repeat' first
  | refine And.intro ?_ ?_
  | (rw [hM])
  | (intro h;simp only [reduceCtorEq] at h;done)
  | (rw [hw0])
  | (rw [hw1])
  | (intro h;exact hdS h)
  | (intro h;exact hdZ rfl h)
  | (intro h;exact absurd (jbO h) (by omega))
  | (intro h;exact absurd (jbZ h) (by rw [hml];omega))
  | intro h
 all_goals first
  | (show aa _=true;kernel_rfl)|(show am _ _=true;kernel_rfl)|exact True.intro|exact Or.inr rfl|exact Or.inl rfl
  | exact rfl
  | with_reducible exact jb2 _
  | (show (j:Int) < (((ah mt k rows)).length:Int);rw [hml];omega)
  | (show (Int.toNat (j:Int)) < _;rw [hml,jca];exact hlt)
  | exact ⟨_,by omega,by omega,rfl⟩
  | (refine ⟨rows.length - (j+1),by omega,j+1,?_,by omega,rfl⟩
     exact fT (f:=fun y z=>(([argS 147 (ah mt k rows),.val false [.i .i64 y],.val false [.i .i64 z]],[]):Snap)) (by first|exact hnext.symm|omega) (nW hlt hs))
  | skip
theorem hd111 (mt:Int→ByteArray) (hmt:FOk Tryz.prog T 40 (spMT mt)):FOk Tryz.prog T 111 (spHd mt 147):=FOk.held (jbh mt hmt)
theorem hd68n (mt:Int→ByteArray) (hmt:FOk Tryz.prog T 40 (spMT mt)) (n:Nat):FOk Tryz.prog T 68 (iw mt 126 n):=by
 refine fok (env:=envL [(33,(spHd mt 3)),(111,(spHd mt 147))]) (N:=31) tabT (ac (hd33 mt hmt) (ac (hd111 mt hmt) af)) mixed Tryz.func68 rfl Tryz.call68 Tryz.ntmps68 ?_
 rintro args ⟨rows,k,h1,h2,wf,hwn,rfl⟩ hwf
 clear hwf
 have hs:=wf.short
 refine ⟨by simp,?_⟩
 rw [Tryz.results68]
 repeat' first
  | refine And.intro ?_ ?_
  | (intro h;simp only [reduceCtorEq] at h;done)
  | intro h
 all_goals first
  | (show aa _=true;kernel_rfl)|(show am _ _=true;kernel_rfl)|exact True.intro|exact Or.inr rfl|exact Or.inl rfl
  | skip
 refine ap (Q:=_) [0,1,5] [] (fun m st=>∃ j:Nat,st=([argS 126 (ah mt k rows),.val false [.i .i64 (k+ad (rows.take j))],.val false [.i .i64 (j:Int)]],[])∧j≤rows.length∧m=rows.length - j) ?_ ?_
 · refine ⟨rfl,rows.length,0,?_,jbP _,rfl⟩
   exact congrArg (fun z:Int=>(([argS 126 (ah mt k rows),.val false [.i .i64 z],.val false [.i .i64 0]],[]):Snap)) (show k=k+((0:Nat):Int) by omega)
 rintro m st ⟨j,rfl,hj,rfl⟩
 have hml:=aK (mt:=mt) rows k
 by_cases hge:rows.length≤j
 · have ht:rows.take j=rows:=jcr (by omega)
   repeat' first
    | refine And.intro ?_ ?_
    | (intro h;simp only [reduceCtorEq] at h;done)
    | (intro h;exact absurd (jbO h) (by rw [hml];omega))
    | intro h
   all_goals first
    | (show aa _=true;kernel_rfl)|(show am _ _=true;kernel_rfl)|exact True.intro|exact Or.inr rfl|exact Or.inl rfl
    | exact rfl
    | exact congrArg (fun z:Int=>[CV.i .i64 z]) (by rw [ht,aN])
    | skip
 have hlt:j < rows.length:=by omega
 obtain ⟨x0,r0,hr,wf0,hr0⟩:=WfRow.slW (wf.at_ (show T 126=some _ from rfl) hlt)
 obtain ⟨x1,r1,rfl,wf1,hr1⟩:=WfRow.slW hr0
 obtain rfl:=hr1.end_
 clear hr1
 have hrow:=cv (mt:=mt) (k:=k) hlt
 rw [hr] at hrow
 have hm0:wD (.l x0) < wD (.l rows):=bJ hlt (j:=0) (by rw [hr];rfl)
 have hm1:wD (.l x1) < wD (.l rows):=bJ hlt (j:=1) (by rw [hr];rfl)
 have hc:=bd hlt
 have hc2:=bP rows (j+1)
 rw [hr] at hc
 have hc3:cRow [.l x0,.l x1]=ad x0+(ad x1+0):=rfl
 rw [hc3] at hc
 obtain ⟨q,hq⟩:∃ q,(k+ad (rows.take j))=q:=⟨_,rfl⟩
 have hnext:k+(ad (rows.take (j+1)):Int)=q+ad x0+ad x1:=by omega
 have hq1:1≤q:=by omega
 have hq2:q+ad x0+ad x1≤4611686018427387904:=by omega
 rw [hq] at hrow
 have hM:(ah mt k rows).getD (Int.toNat (j:Int)) []=[.l (ah mt (q) x0),.l (ah mt (q+ad x0) x1)]:=hrow
 simp only [hq]
 clear hrow hc hc2 hc3
 have hx0:ad (([.l (ah mt (q) x0),.l (ah mt (q+ad x0) x1)]:List D).getD 0 default).rows=ad x0:=aN _ _
 have hx1:ad (([.l (ah mt (q) x0),.l (ah mt (q+ad x0) x1)]:List D).getD 1 default).rows=ad x1:=aN _ _
 repeat' first
  | refine And.intro ?_ ?_
  | (rw [hM])
  | (intro h;simp only [reduceCtorEq] at h;done)
  | (rw [hx0])
  | (rw [hx1])
  | (intro h;exact hdS h)
  | (intro h;exact hdZ rfl h)
  | (intro h;exact absurd (jbO h) (by omega))
  | (intro h;exact absurd (jbZ h) (by rw [hml];omega))
  | intro h
 all_goals first
  | (show aa _=true;kernel_rfl)|(show am _ _=true;kernel_rfl)|exact True.intro|exact Or.inr rfl|exact Or.inl rfl
  | exact rfl
  | with_reducible exact jb2 _
  | (show (j:Int) < (((ah mt k rows)).length:Int);rw [hml];omega)
  | (show (Int.toNat (j:Int)) < _;rw [hml,jca];exact hlt)
  | exact ⟨_,by omega,by omega,rfl⟩
  | exact ⟨x0,q,by omega,by omega,wf0,rfl⟩
  | exact ⟨x1,q+ad x0,by omega,by omega,wf1,rfl⟩
  | (refine ⟨rows.length - (j+1),by omega,j+1,?_,by omega,rfl⟩
     exact fT (f:=fun y z=>(([argS 126 (ah mt k rows),.val false [.i .i64 y],.val false [.i .i64 z]],[]):Snap)) (by first|exact hnext.symm|omega) (nW hlt hs))
  | skip
theorem hd68 (mt:Int→ByteArray) (hmt:FOk Tryz.prog T 40 (spMT mt)):FOk Tryz.prog T 68 (spHd mt 126):=FOk.held (hd68n mt hmt)
theorem hd066 (mt:Int→ByteArray):FOk Tryz.prog T 66 (iw mt 53 0):=by
 refine fok (env:=envL []) (N:=77) tabT af mixed Tryz.func66 rfl Tryz.call66 Tryz.ntmps66 ?_
 exact fun args ⟨rows,k,h1,h2,wf,hwn,h⟩=>absurd hwn (jcE _)
theorem jbf (mt:Int→ByteArray) (hmt:FOk Tryz.prog T 40 (spMT mt)) (n:Nat) (ih:FOk Tryz.prog T 66 (iw mt 53 n)):FOk Tryz.prog T 66 (iw mt 53 (n+1)):=by
 refine fok (env:=envL [(40,(spMT mt)),(66,(iw mt 53 n)),(67,(spHd mt 9)),(68,(spHd mt 126))]) (N:=77) tabT (ac hmt (ac ih (ac (hd67 mt hmt) (ac (hd68 mt hmt) af)))) mixed Tryz.func66 rfl Tryz.call66 Tryz.ntmps66 ?_
 rintro args ⟨rows,k,h1,h2,wf,hwn,rfl⟩ hwf
 clear hwf
 have hs:=wf.short
 refine ⟨by simp,?_⟩
 rw [Tryz.results66]
 repeat' first
  | refine And.intro ?_ ?_
  | (intro h;simp only [reduceCtorEq] at h;done)
  | intro h
 all_goals first
  | (show aa _=true;kernel_rfl)|(show am _ _=true;kernel_rfl)|exact True.intro|exact Or.inr rfl|exact Or.inl rfl
  | skip
 refine ap (Q:=_) [0,1,5] [] (fun m st=>∃ j:Nat,st=([argS 53 (ah mt k rows),.val false [.i .i64 (k+ad (rows.take j))],.val false [.i .i64 (j:Int)]],[])∧j≤rows.length∧m=rows.length - j) ?_ ?_
 · refine ⟨rfl,rows.length,0,?_,jbP _,rfl⟩
   exact congrArg (fun z:Int=>(([argS 53 (ah mt k rows),.val false [.i .i64 z],.val false [.i .i64 0]],[]):Snap)) (show k=k+((0:Nat):Int) by omega)
 rintro m st ⟨j,rfl,hj,rfl⟩
 have hml:=aK (mt:=mt) rows k
 by_cases hge:rows.length≤j
 · have ht:rows.take j=rows:=jcr (by omega)
   repeat' first
    | refine And.intro ?_ ?_
    | (intro h;simp only [reduceCtorEq] at h;done)
    | (intro h;exact absurd (jbO h) (by rw [hml];omega))
    | intro h
   all_goals first
    | (show aa _=true;kernel_rfl)|(show am _ _=true;kernel_rfl)|exact True.intro|exact Or.inr rfl|exact Or.inl rfl
    | exact rfl
    | exact congrArg (fun z:Int=>[CV.i .i64 z]) (by rw [ht,aN])
    | skip
 have hlt:j < rows.length:=by omega
 obtain ⟨x0,r0,hr,hr0⟩:=WfRow.int_ (wf.at_ (show T 53=some _ from rfl) hlt)
 obtain ⟨x1,r1,rfl,hr1⟩:=WfRow.int_ hr0
 obtain ⟨x2,r2,rfl,hr2⟩:=WfRow.int_ hr1
 obtain ⟨x3,r3,rfl,hr3⟩:=WfRow.str_ hr2
 obtain ⟨x4,r4,rfl,wf4,hr4⟩:=WfRow.slW hr3
 obtain ⟨x5,r5,rfl,wf5,hr5⟩:=WfRow.slW hr4
 obtain ⟨x6,r6,rfl,wf6,hr6⟩:=WfRow.slW hr5
 obtain rfl:=hr6.end_
 clear hr6
 have hrow:=cv (mt:=mt) (k:=k) hlt
 rw [hr] at hrow
 have hm4:wD (.l x4) < wD (.l rows):=bJ hlt (j:=4) (by rw [hr];rfl)
 have hm5:wD (.l x5) < wD (.l rows):=bJ hlt (j:=5) (by rw [hr];rfl)
 have hm6:wD (.l x6) < wD (.l rows):=bJ hlt (j:=6) (by rw [hr];rfl)
 have hc:=bd hlt
 have hc2:=bP rows (j+1)
 rw [hr] at hc
 have hc3:cRow [.i x0,.i x1,.i x2,.s x3,.l x4,.l x5,.l x6]=1+(1+(1+(1+(ad x4+(ad x5+(ad x6+0)))))):=rfl
 rw [hc3] at hc
 obtain ⟨q,hq⟩:∃ q,(k+ad (rows.take j))=q:=⟨_,rfl⟩
 have hnext:k+(ad (rows.take (j+1)):Int)=q+1+1+1+1+ad x4+ad x5+ad x6:=by omega
 have hq1:1≤q:=by omega
 have hq2:q+1+1+1+1+ad x4+ad x5+ad x6≤4611686018427387904:=by omega
 rw [hq] at hrow
 have hM:(ah mt k rows).getD (Int.toNat (j:Int)) []=[.i (q),.i (q+1),.i (q+1+1),.s (mt (q+1+1+1)),.l (ah mt (q+1+1+1+1) x4),.l (ah mt (q+1+1+1+1+ad x4) x5),.l (ah mt (q+1+1+1+1+ad x4+ad x5) x6)]:=hrow
 simp only [hq]
 clear hrow hc hc2 hc3
 have hw0:IntKind.i64.wrap (q+1)=q+1:=IntWalk.i64_in _ (by omega)
 have hw1:IntKind.i64.wrap (q+1+1)=q+1+1:=IntWalk.i64_in _ (by omega)
 have hw2:IntKind.i64.wrap (q+1+1+1)=q+1+1+1:=IntWalk.i64_in _ (by omega)
 have hw3:IntKind.i64.wrap (q+1+1+1+1)=q+1+1+1+1:=IntWalk.i64_in _ (by omega)
 have hx4:ad (([.i (q),.i (q+1),.i (q+1+1),.s (mt (q+1+1+1)),.l (ah mt (q+1+1+1+1) x4),.l (ah mt (q+1+1+1+1+ad x4) x5),.l (ah mt (q+1+1+1+1+ad x4+ad x5) x6)]:List D).getD 4 default).rows=ad x4:=aN _ _
 have hx5:ad (([.i (q),.i (q+1),.i (q+1+1),.s (mt (q+1+1+1)),.l (ah mt (q+1+1+1+1) x4),.l (ah mt (q+1+1+1+1+ad x4) x5),.l (ah mt (q+1+1+1+1+ad x4+ad x5) x6)]:List D).getD 5 default).rows=ad x5:=aN _ _
 have hx6:ad (([.i (q),.i (q+1),.i (q+1+1),.s (mt (q+1+1+1)),.l (ah mt (q+1+1+1+1) x4),.l (ah mt (q+1+1+1+1+ad x4) x5),.l (ah mt (q+1+1+1+1+ad x4+ad x5) x6)]:List D).getD 6 default).rows=ad x6:=aN _ _
 repeat' first
  | refine And.intro ?_ ?_
  | (rw [hM])
  | (intro h;simp only [reduceCtorEq] at h;done)
  | (rw [hw0])
  | (rw [hw1])
  | (rw [hw2])
  | (rw [hw3])
  | (rw [hx4])
  | (rw [hx5])
  | (rw [hx6])
  | (intro h;exact hdS h)
  | (intro h;exact hdZ rfl h)
  | (intro h;exact absurd (jbO h) (by omega))
  | (intro h;exact absurd (jbZ h) (by rw [hml];omega))
  | intro h
 all_goals first
  | (show aa _=true;kernel_rfl)|(show am _ _=true;kernel_rfl)|exact True.intro|exact Or.inr rfl|exact Or.inl rfl
  | exact rfl
  | with_reducible exact jb2 _
  | (show (j:Int) < (((ah mt k rows)).length:Int);rw [hml];omega)
  | (show (Int.toNat (j:Int)) < _;rw [hml,jca];exact hlt)
  | exact ⟨_,by omega,by omega,rfl⟩
  | exact ⟨x4,q+1+1+1+1,by omega,by omega,wf4,by omega,rfl⟩
  | exact ⟨x5,q+1+1+1+1+ad x4,by omega,by omega,wf5,rfl⟩
  | exact ⟨x6,q+1+1+1+1+ad x4+ad x5,by omega,by omega,wf6,rfl⟩
  | (refine ⟨rows.length - (j+1),by omega,j+1,?_,by omega,rfl⟩
     exact fT (f:=fun y z=>(([argS 53 (ah mt k rows),.val false [.i .i64 y],.val false [.i .i64 z]],[]):Snap)) (by first|exact hnext.symm|omega) (nW hlt hs))
  | skip
theorem jbg (mt:Int→ByteArray) (hmt:FOk Tryz.prog T 40 (spMT mt)):∀ n,FOk Tryz.prog T 66 (iw mt 53 n)
 | 0=>hd066 mt
 | n+1=>jbf mt hmt n (jbg mt hmt n)
theorem hd66 (mt:Int→ByteArray) (hmt:FOk Tryz.prog T 40 (spMT mt)):FOk Tryz.prog T 66 (spHd mt 53):=FOk.held (jbg mt hmt)
theorem hd34n (mt:Int→ByteArray) (hmt:FOk Tryz.prog T 40 (spMT mt)) (n:Nat):FOk Tryz.prog T 34 (iw mt 55 n):=by
 refine fok (env:=envL [(40,(spMT mt)),(66,(spHd mt 53)),(67,(spHd mt 9)),(68,(spHd mt 126))]) (N:=121) tabT (ac hmt (ac (hd66 mt hmt) (ac (hd67 mt hmt) (ac (hd68 mt hmt) af)))) mixed Tryz.func34 rfl Tryz.call34 Tryz.ntmps34 ?_
 rintro args ⟨rows,k,h1,h2,wf,hwn,rfl⟩ hwf
 clear hwf
 have hs:=wf.short
 refine ⟨by simp,?_⟩
 rw [Tryz.results34]
 repeat' first
  | refine And.intro ?_ ?_
  | (intro h;simp only [reduceCtorEq] at h;done)
  | intro h
 all_goals first
  | (show aa _=true;kernel_rfl)|(show am _ _=true;kernel_rfl)|exact True.intro|exact Or.inr rfl|exact Or.inl rfl
  | skip
 refine ap (Q:=_) [0,1,5] [] (fun m st=>∃ j:Nat,st=([argS 55 (ah mt k rows),.val false [.i .i64 (k+ad (rows.take j))],.val false [.i .i64 (j:Int)]],[])∧j≤rows.length∧m=rows.length - j) ?_ ?_
 · refine ⟨rfl,rows.length,0,?_,jbP _,rfl⟩
   exact congrArg (fun z:Int=>(([argS 55 (ah mt k rows),.val false [.i .i64 z],.val false [.i .i64 0]],[]):Snap)) (show k=k+((0:Nat):Int) by omega)
 rintro m st ⟨j,rfl,hj,rfl⟩
 have hml:=aK (mt:=mt) rows k
 by_cases hge:rows.length≤j
 · have ht:rows.take j=rows:=jcr (by omega)
   repeat' first
    | refine And.intro ?_ ?_
    | (intro h;simp only [reduceCtorEq] at h;done)
    | (intro h;exact absurd (jbO h) (by rw [hml];omega))
    | intro h
   all_goals first
    | (show aa _=true;kernel_rfl)|(show am _ _=true;kernel_rfl)|exact True.intro|exact Or.inr rfl|exact Or.inl rfl
    | exact rfl
    | exact congrArg (fun z:Int=>[CV.i .i64 z]) (by rw [ht,aN])
    | skip
 have hlt:j < rows.length:=by omega
 obtain ⟨x0,r0,hr,hr0⟩:=WfRow.int_ (wf.at_ (show T 55=some _ from rfl) hlt)
 obtain ⟨x1,r1,rfl,hr1⟩:=WfRow.int_ hr0
 obtain ⟨x2,r2,rfl,hr2⟩:=WfRow.int_ hr1
 obtain ⟨x3,r3,rfl,hr3⟩:=WfRow.str_ hr2
 obtain ⟨x4,r4,rfl,hr4⟩:=WfRow.int_ hr3
 obtain ⟨x5,r5,rfl,hr5⟩:=WfRow.int_ hr4
 obtain ⟨x6,r6,rfl,hr6⟩:=WfRow.int_ hr5
 obtain ⟨x7,r7,rfl,hr7⟩:=WfRow.str_ hr6
 obtain ⟨x8,r8,rfl,wf8,hr8⟩:=WfRow.slW hr7
 obtain ⟨x9,r9,rfl,wf9,hr9⟩:=WfRow.slW hr8
 obtain ⟨x10,r10,rfl,wf10,hr10⟩:=WfRow.slW hr9
 obtain rfl:=hr10.end_
 clear hr10
 have hrow:=cv (mt:=mt) (k:=k) hlt
 rw [hr] at hrow
 have hm8:wD (.l x8) < wD (.l rows):=bJ hlt (j:=8) (by rw [hr];rfl)
 have hm9:wD (.l x9) < wD (.l rows):=bJ hlt (j:=9) (by rw [hr];rfl)
 have hm10:wD (.l x10) < wD (.l rows):=bJ hlt (j:=10) (by rw [hr];rfl)
 have hc:=bd hlt
 have hc2:=bP rows (j+1)
 rw [hr] at hc
 have hc3:cRow [.i x0,.i x1,.i x2,.s x3,.i x4,.i x5,.i x6,.s x7,.l x8,.l x9,.l x10]=1+(1+(1+(1+(1+(1+(1+(1+(ad x8+(ad x9+(ad x10+0)))))))))):=rfl
 rw [hc3] at hc
 obtain ⟨q,hq⟩:∃ q,(k+ad (rows.take j))=q:=⟨_,rfl⟩
 have hnext:k+(ad (rows.take (j+1)):Int)=q+1+1+1+1+1+1+1+1+ad x8+ad x9+ad x10:=by omega
 have hq1:1≤q:=by omega
 have hq2:q+1+1+1+1+1+1+1+1+ad x8+ad x9+ad x10≤4611686018427387904:=by omega
 rw [hq] at hrow
 have hM:(ah mt k rows).getD (Int.toNat (j:Int)) []=[.i (q),.i (q+1),.i (q+1+1),.s (mt (q+1+1+1)),.i (q+1+1+1+1),.i (q+1+1+1+1+1),.i (q+1+1+1+1+1+1),.s (mt (q+1+1+1+1+1+1+1)),.l (ah mt (q+1+1+1+1+1+1+1+1) x8),.l (ah mt (q+1+1+1+1+1+1+1+1+ad x8) x9),.l (ah mt (q+1+1+1+1+1+1+1+1+ad x8+ad x9) x10)]:=hrow
 simp only [hq]
 clear hrow hc hc2 hc3
 have hw0:IntKind.i64.wrap (q+1)=q+1:=IntWalk.i64_in _ (by omega)
 have hw1:IntKind.i64.wrap (q+1+1)=q+1+1:=IntWalk.i64_in _ (by omega)
 have hw2:IntKind.i64.wrap (q+1+1+1)=q+1+1+1:=IntWalk.i64_in _ (by omega)
 have hw3:IntKind.i64.wrap (q+1+1+1+1)=q+1+1+1+1:=IntWalk.i64_in _ (by omega)
 have hw4:IntKind.i64.wrap (q+1+1+1+1+1)=q+1+1+1+1+1:=IntWalk.i64_in _ (by omega)
 have hw5:IntKind.i64.wrap (q+1+1+1+1+1+1)=q+1+1+1+1+1+1:=IntWalk.i64_in _ (by omega)
 have hw6:IntKind.i64.wrap (q+1+1+1+1+1+1+1)=q+1+1+1+1+1+1+1:=IntWalk.i64_in _ (by omega)
 have hw7:IntKind.i64.wrap (q+1+1+1+1+1+1+1+1)=q+1+1+1+1+1+1+1+1:=IntWalk.i64_in _ (by omega)
 have hx8:ad (([.i (q),.i (q+1),.i (q+1+1),.s (mt (q+1+1+1)),.i (q+1+1+1+1),.i (q+1+1+1+1+1),.i (q+1+1+1+1+1+1),.s (mt (q+1+1+1+1+1+1+1)),.l (ah mt (q+1+1+1+1+1+1+1+1) x8),.l (ah mt (q+1+1+1+1+1+1+1+1+ad x8) x9),.l (ah mt (q+1+1+1+1+1+1+1+1+ad x8+ad x9) x10)]:List D).getD 8 default).rows=ad x8:=aN _ _
 have hx9:ad (([.i (q),.i (q+1),.i (q+1+1),.s (mt (q+1+1+1)),.i (q+1+1+1+1),.i (q+1+1+1+1+1),.i (q+1+1+1+1+1+1),.s (mt (q+1+1+1+1+1+1+1)),.l (ah mt (q+1+1+1+1+1+1+1+1) x8),.l (ah mt (q+1+1+1+1+1+1+1+1+ad x8) x9),.l (ah mt (q+1+1+1+1+1+1+1+1+ad x8+ad x9) x10)]:List D).getD 9 default).rows=ad x9:=aN _ _
 have hx10:ad (([.i (q),.i (q+1),.i (q+1+1),.s (mt (q+1+1+1)),.i (q+1+1+1+1),.i (q+1+1+1+1+1),.i (q+1+1+1+1+1+1),.s (mt (q+1+1+1+1+1+1+1)),.l (ah mt (q+1+1+1+1+1+1+1+1) x8),.l (ah mt (q+1+1+1+1+1+1+1+1+ad x8) x9),.l (ah mt (q+1+1+1+1+1+1+1+1+ad x8+ad x9) x10)]:List D).getD 10 default).rows=ad x10:=aN _ _
 repeat' first
  | refine And.intro ?_ ?_
  | (rw [hM])
  | (intro h;simp only [reduceCtorEq] at h;done)
  | (rw [hw0])
  | (rw [hw1])
  | (rw [hw2])
  | (rw [hw3])
  | (rw [hw4])
  | (rw [hw5])
  | (rw [hw6])
  | (rw [hw7])
  | (rw [hx8])
  | (rw [hx9])
  | (rw [hx10])
  | (intro h;exact hdS h)
  | (intro h;exact hdZ rfl h)
  | (intro h;exact absurd (jbO h) (by omega))
  | (intro h;exact absurd (jbZ h) (by rw [hml];omega))
  | intro h
 all_goals first
  | (show aa _=true;kernel_rfl)|(show am _ _=true;kernel_rfl)|exact True.intro|exact Or.inr rfl|exact Or.inl rfl
  | exact rfl
  | with_reducible exact jb2 _
  | (show (j:Int) < (((ah mt k rows)).length:Int);rw [hml];omega)
  | (show (Int.toNat (j:Int)) < _;rw [hml,jca];exact hlt)
  | exact ⟨_,by omega,by omega,rfl⟩
  | exact ⟨x8,q+1+1+1+1+1+1+1+1,by omega,by omega,wf8,rfl⟩
  | exact ⟨x9,q+1+1+1+1+1+1+1+1+ad x8,by omega,by omega,wf9,rfl⟩
  | exact ⟨x10,q+1+1+1+1+1+1+1+1+ad x8+ad x9,by omega,by omega,wf10,rfl⟩
  | (refine ⟨rows.length - (j+1),by omega,j+1,?_,by omega,rfl⟩
     exact fT (f:=fun y z=>(([argS 55 (ah mt k rows),.val false [.i .i64 y],.val false [.i .i64 z]],[]):Snap)) (by first|exact hnext.symm|omega) (nW hlt hs))
  | skip
theorem hd34 (mt:Int→ByteArray) (hmt:FOk Tryz.prog T 40 (spMT mt)):FOk Tryz.prog T 34 (spHd mt 55):=FOk.held (hd34n mt hmt)
def spHdG (mt:Int→ByteArray) (cts:List CT):FSpec where
 pre args:=∃ (row:List D) (k:Int),1≤k∧k+cSl row≤4611686018427387904∧WfRow T cts row∧args=[argG cts (mkSl mt k row),.val false [.i .i64 k]]
 res args:=match args with
  | [.val _ cs,.val _ [.i _ k]]=>.val false [.i .i64 (k+cSl (csD cs))]
  | _=>.none
theorem hg10 (mt:Int→ByteArray) (hmt:FOk Tryz.prog T 40 (spMT mt)):FOk Tryz.prog T 10 (spHdG mt cO):=by
 refine fok (env:=envL [(33,(spHd mt 3)),(34,(spHd mt 55))]) (N:=18) tabT (ac (hd33 mt hmt) (ac (hd34 mt hmt) af)) mixed Tryz.func10 rfl Tryz.call10 Tryz.ntmps10 ?_
 rintro args ⟨row,k,h1,h2,hw,rfl⟩ hwf
 clear hwf
 obtain ⟨x0,r0,rfl,hr0⟩:=WfRow.int_ hw
 obtain ⟨x1,r1,rfl,hr1⟩:=WfRow.int_ hr0
 obtain ⟨x2,r2,rfl,hr2⟩:=WfRow.int_ hr1
 obtain ⟨x3,r3,rfl,wf3,hr3⟩:=WfRow.slW hr2
 obtain ⟨x4,r4,rfl,hr4⟩:=WfRow.int_ hr3
 obtain ⟨x5,r5,rfl,hr5⟩:=WfRow.int_ hr4
 obtain ⟨x6,r6,rfl,hr6⟩:=WfRow.int_ hr5
 obtain ⟨x7,r7,rfl,hr7⟩:=WfRow.int_ hr6
 obtain ⟨x8,r8,rfl,hr8⟩:=WfRow.int_ hr7
 obtain ⟨x9,r9,rfl,hr9⟩:=WfRow.str_ hr8
 obtain ⟨x10,r10,rfl,hr10⟩:=WfRow.str_ hr9
 obtain ⟨x11,r11,rfl,hr11⟩:=WfRow.int_ hr10
 obtain ⟨x12,r12,rfl,hr12⟩:=WfRow.str_ hr11
 obtain ⟨x13,r13,rfl,hr13⟩:=WfRow.str_ hr12
 obtain ⟨x14,r14,rfl,hr14⟩:=WfRow.int_ hr13
 obtain ⟨x15,r15,rfl,hr15⟩:=WfRow.int_ hr14
 obtain ⟨x16,r16,rfl,wf16,hr16⟩:=WfRow.slW hr15
 obtain rfl:=hr16.end_
 clear hw hr0 hr1 hr2 hr3 hr4 hr5 hr6 hr7 hr8 hr9 hr10 hr11 hr12 hr13 hr14 hr15 hr16
 have h2' : k+((ad x3+(ad x16+0):Nat):Int)≤4611686018427387904:=h2
 have hx3:ad (((mkSl mt k ([.i x0,.i x1,.i x2,.l x3,.i x4,.i x5,.i x6,.i x7,.i x8,.s x9,.s x10,.i x11,.s x12,.s x13,.i x14,.i x15,.l x16]:List D)).getD (0+1+1+1) default).rows)=ad x3:=aN _ _
 have hx16:ad (((mkSl mt k ([.i x0,.i x1,.i x2,.l x3,.i x4,.i x5,.i x6,.i x7,.i x8,.s x9,.s x10,.i x11,.s x12,.s x13,.i x14,.i x15,.l x16]:List D)).getD (0+1+1+1+1+1+1+1+1+1+1+1+1+1+1+1+1) default).rows)=ad x16:=aN _ _
 refine ⟨by simp,?_⟩
 rw [Tryz.results10]
 repeat' first
  | refine And.intro ?_ ?_
  | (rw [hx3])
  | (rw [hx16])
  | (intro h;simp only [reduceCtorEq] at h;done)
  | (intro h;exact absurd (jbO h) (by omega))
  | intro h
 all_goals first
  | (show aa _=true;kernel_rfl)|(show am _ _=true;kernel_rfl)|exact True.intro|exact Or.inr rfl|exact Or.inl rfl
  | exact ⟨x3,k,by omega,by omega,wf3,rfl⟩
  | exact ⟨x16,k+ad x3,by omega,by omega,wf16,rfl⟩
  | exact congrArg (fun z:Int=>[CV.i .i64 z]) (show k+ad x3+ad x16=k+((ad (ah mt (k) x3)+(ad (ah mt (k+ad x3) x16)+0):Nat):Int) by simp only [aN];omega)
  | skip
end Go.Proofs.YtdjfhmghebommaaGreatDoor.Ab
