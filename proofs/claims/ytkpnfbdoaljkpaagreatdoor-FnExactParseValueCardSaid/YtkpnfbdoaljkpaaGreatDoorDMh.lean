/- What is held after marks: descriptions of the functions that look. No program in -/
import Derived.Test.YtkpnfbdoaljkpaaGreatDoorDMd
import Derived.Test.YtkpnfbdoaljkpaaGreatDoorDTa
import Derived.IntWalk
import Derived.Test.YtkpnfbdoaljkpaaGreatDoorDMo
namespace Go.Proofs.YtkpnfbdoaljkpaaGreatDoor.Ab
open Go.RowKit
set_option linter.unusedVariables false
variable {mt:Int→ByteArray}
def spHdn (mt:Int→ByteArray) (e:TypeId) (n:Nat):FSpec where
  pre args:=∃ (rows:List (List D)) (k:Int),1≤k∧k+cRows rows≤4611686018427387904∧WfD T (.l e) (.l rows)∧wD (.l rows) < n∧args=[argS e (mkRows mt k rows),.val false [.i .i64 k]]
  res args:=match args with
    | [.val _ [.sl _ _ rows],.val _ [.i _ k]]=>.val false [.i .i64 (k+cRows rows)]
    | _=>.none
def spHd (mt:Int→ByteArray) (e:TypeId):FSpec where
  pre args:=∃ (rows:List (List D)) (k:Int),1≤k∧k+cRows rows≤4611686018427387904∧WfD T (.l e) (.l rows)∧args=[argS e (mkRows mt k rows),.val false [.i .i64 k]]
  res args:=match args with
    | [.val _ [.sl _ _ rows],.val _ [.i _ k]]=>.val false [.i .i64 (k+cRows rows)]
    | _=>.none
theorem FOk.held {P:Program} {f:FuncId} {e:TypeId} (h:∀ n,FOk P T f (spHdn mt e n)):FOk P T f (spHd mt e) :=
  FOk.lift (s:=fun n=>spHdn mt e n) h (fun args ⟨rows,k,h1,h2,h3,h4⟩=>⟨wD (.l rows)+1,rows,k,h1,h2,h3,Nat.lt_succ_self _,h4⟩) (fun n=>rfl)
theorem WfD.at_ {e:TypeId} {ty:Ty} {rows:List (List D)} (h:WfD T (.l e) (.l rows)) (he:T e=some ty) {k:Nat} (hk:k < rows.length):WfRow T ty.cts (rows.getD k []):=by
  have hrow:rows[k]? = some (rows.getD k []):=by simp [List.getD_eq_getElem?_getD,List.getElem?_eq_getElem hk]
  cases h with
  | nil=>exact absurd hk (Nat.not_lt_zero _)
  | sl e ty' rows h1 h2 h3 h4 =>
    obtain rfl:=Option.some.inj (h1.symm.trans he)
    exact ⟨h3 k _ hrow,fun j ct d a b=>h4 k j ct d _ hrow a b⟩
theorem WfD.short {e:TypeId} {rows:List (List D)} (h:WfD T (.l e) (.l rows)):rows.length≤maxLen:=by
  cases h with
  | nil=>exact Nat.zero_le _
  | sl e ty' rows h1 h2 h3 h4=>exact h2
theorem WfRow.slW {e:TypeId} {cts:List CT} {r:List D} (h:WfRow T (.l e :: cts) r):∃ x r',r=.l x :: r' ∧ WfD T (.l e) (.l x)∧WfRow T cts r' := by
  obtain ⟨d,r',rfl,hd,hr⟩:=h.cut
  cases hd with
  | nil=>exact ⟨_,_,rfl,.nil e,hr⟩
  | sl _ ty rows a b c d=>exact ⟨_,_,rfl,.sl e ty rows a b c d,hr⟩
theorem wrapJ {i n:Nat} (hi:i < n) (hn:n≤maxLen):IntKind.i64.wrap ((i:Int)+1)=((i+1:Nat):Int):=by
  simp only [maxLen] at hn
  rw [IntKind.wrap_i64];omega
theorem snapRZ2 {f:Int→Int→Snap} {r r' a a' : Int} (h:r=r') (h2:a=a'):f r a=f r' a' := by rw [h,h2]
theorem hdS {a:ByteArray} {p:Prop} (h:(!(a.toList == a.toList))=true):p:=by simp at h
theorem hdZ {a b:Int} {p:Prop} (e:a=b) (h:(a != b)=true):p:=by subst e;simp at h
end Go.Proofs.YtkpnfbdoaljkpaaGreatDoor.Ab
namespace Go.Proofs.YtkpnfbdoaljkpaaGreatDoor.Ab
open Go.RowKit
set_option linter.unusedVariables false
set_option linter.unusedSimpArgs false
set_option maxRecDepth 100000
set_option maxHeartbeats 2000000
def digX (k:Int):ByteArray:=bytesOf ([]++[[D.i (IntKind.u8.wrap (IntKind.i64.wrap (48+k.tmod 10)))]])
def mtD:Nat→Int→ByteArray→ByteArray
  | 0,_,t=>t
  | n+1,k,t=>if k > 0 then mtD n (k.tdiv 10) (digX k++t) else t
theorem mtD_end {n:Nat} {k:Int} {t:ByteArray} (h:¬ k > 0):mtD n k t=t:=by
  cases n with
  | zero=>rfl
  | succ n=>rw [mtD,if_neg h]
theorem mtD_go {n:Nat} {k:Int} {t:ByteArray} (h:k > 0):mtD (n+1) k t=mtD n (k.tdiv 10) (digX k++t):=by rw [mtD,if_pos h]
theorem digX_size (k:Int):(digX k).size=1:=rfl
theorem tdiv_lt {m:Nat} {x:Int} (h0:0 < x) (h:x < 2 ^ m):∃ g,m=g+1∧0≤x.tdiv 10∧x.tdiv 10 < 2 ^ g:=by
  cases m with
  | zero=>simp at h;omega
  | succ g =>
    refine ⟨g,rfl,Int.tdiv_nonneg (by omega) (by decide),?_⟩
    rw [Int.tdiv_eq_ediv_of_nonneg (by omega)]
    rw [Int.pow_succ] at h
    omega
theorem ok81:FOk Tryz.prog T 81 (spMT fun k=>⟨#[109]⟩++mtD 63 k ⟨#[]⟩):=by
  refine fok (env:=envL []) (N:=20) tabT envL_nil mixed Tryz.func81 rfl Tryz.call81 Tryz.ntmps81 ?_
  rintro args ⟨k,h1,h2,rfl⟩ hwf
  clear hwf
  refine ⟨by simp,?_⟩
  rw [Tryz.results81]
  repeat' first
    | (refine And.intro ?_ ?_)
    | (intro h;simp only [reduceCtorEq] at h;done)
    | (intro h;exact absurd (of_decide_eq_true h) (by omega))
    | (intro h)
  all_goals first
    | (show lowEdges _=true;kernel_rfl)|(show logOk _ _=true;kernel_rfl)|exact True.intro|exact Or.inr rfl|exact Or.inl rfl
    | skip
  refine awp_loop (Q:=_) [0,3] [] (fun m st=>∃ (x:Int) (t:ByteArray),st=([.val false [.i .i64 x],.val false [.s t]],[])∧0≤x∧x≤4611686018427387904∧x < 2 ^ m∧t.size+m≤63∧mtD m x t=mtD 63 k ⟨#[]⟩) ?_ ?_
  · exact ⟨rfl,63,k,_,rfl,by omega,h2,by omega,Nat.le_refl _,rfl⟩
  rintro m st ⟨x,t,rfl,h3,hx,h4,h5,h6⟩
  repeat' first
    | (refine And.intro ?_ ?_)
    | (intro h;simp only [reduceCtorEq] at h;done)
    | (intro h)
  all_goals first
    | (show lowEdges _=true;kernel_rfl)|(show logOk _ _=true;kernel_rfl)|exact True.intro|exact Or.inr rfl|exact Or.inl rfl
    | exact absurd h (by decide)
    | (show Alive _ _;exact rfl)
    | (have ht:=Int.tmod_nonneg 10 h3
       have ht2:=Int.tmod_lt_of_pos x (show (0:Int) < 10 by decide)
       have e1:IntKind.i64.min = -9223372036854775808:=by decide
       have e2:IntKind.i64.max=9223372036854775807:=by decide
       first
         | (rw [e1];omega)
         | (rw [e2];omega)
         | (show (digX x).size+t.size≤maxLen;rw [digX_size];simp only [maxLen];omega))
    | (have h7:x > 0:=of_decide_eq_true (by assumption)
       obtain ⟨g,rfl,h8,h9⟩:=tdiv_lt h7 h4
       have h10:x.tdiv 10≤4611686018427387904:=by rw [Int.tdiv_eq_ediv_of_nonneg h3];omega
       refine ⟨g,Nat.lt_succ_self _,x.tdiv 10,digX x++t,?_,h8,h10,h9,by rw [ByteArray.size_append,digX_size];omega,(mtD_go h7).symm.trans h6⟩
       first
         | rfl
         | exact congrArg (fun z:Int=>(([.val false [.i .i64 z],.val false [.s (digX x++t)]],[]):Snap)) (IntWalk.i64_in _ (by omega)))
    | (have h7:¬ x > 0:=of_decide_eq_false (by assumption)
       have hE:=(mtD_end h7).symm.trans h6
       first
         | (show (⟨#[109]⟩:ByteArray).size+t.size≤maxLen;show 1+t.size≤maxLen;simp only [maxLen];omega)
         | exact congrArg (fun z:ByteArray=>[CV.s ((⟨#[109]⟩:ByteArray)++z)]) hE)
    | skip
theorem hd77n (mt:Int→ByteArray) (hmt:FOk Tryz.prog T 81 (spMT mt)) (n:Nat):FOk Tryz.prog T 77 (spHdn mt 3 n):=by
  refine fok (env:=envL []) (N:=21) tabT envL_nil mixed Tryz.func77 rfl Tryz.call77 Tryz.ntmps77 ?_
  rintro args ⟨rows,k,h1,h2,wf,hwn,rfl⟩ hwf
  clear hwf
  have hs:=wf.short
  refine ⟨by simp,?_⟩
  rw [Tryz.results77]
  repeat' first
    | (refine And.intro ?_ ?_)
    | (intro h;simp only [reduceCtorEq] at h;done)
    | (intro h)
  all_goals first
    | (show lowEdges _=true;kernel_rfl)|(show logOk _ _=true;kernel_rfl)|exact True.intro|exact Or.inr rfl|exact Or.inl rfl
    | skip
  refine awp_loop (Q:=_) [0,1,5] [] (fun m st=>∃ j:Nat,st=([argS 3 (mkRows mt k rows),.val false [.i .i64 (k+cRows (rows.take j))],.val false [.i .i64 (j:Int)]],[])∧j≤rows.length∧m=rows.length - j) ?_ ?_
  · refine ⟨rfl,rows.length,0,?_,Nat.zero_le _,rfl⟩
    exact congrArg (fun z:Int=>(([argS 3 (mkRows mt k rows),.val false [.i .i64 z],.val false [.i .i64 0]],[]):Snap)) (show k=k+((0:Nat):Int) by omega)
  rintro m st ⟨j,rfl,hj,rfl⟩
  have hml:=mkRows_length (mt:=mt) rows k
  by_cases hge:rows.length≤j
  · have ht:rows.take j=rows:=List.take_of_length_le (by omega)
    repeat' first
      | (refine And.intro ?_ ?_)
      | (intro h;simp only [reduceCtorEq] at h;done)
      | (intro h;exact absurd (of_decide_eq_true h) (by rw [hml];omega))
      | (intro h)
    all_goals first
      | (show lowEdges _=true;kernel_rfl)|(show logOk _ _=true;kernel_rfl)|exact True.intro|exact Or.inr rfl|exact Or.inl rfl
      | exact rfl
      | exact congrArg (fun z:Int=>[CV.i .i64 z]) (by rw [ht,cRows_mk])
      | skip
  have hlt:j < rows.length:=by omega
  obtain ⟨x0,r0,hr,hr0⟩:=WfRow.int_ (wf.at_ (show T 3=some _ from rfl) hlt)
  obtain rfl:=hr0.end_
  clear hr0
  have hrow:=mkRows_row (mt:=mt) (k:=k) hlt
  rw [hr] at hrow
  have hc:=cRows_next hlt
  have hc2:=cRows_le rows (j+1)
  rw [hr] at hc
  have hc3:cRow [.i x0]=1+0:=rfl
  rw [hc3] at hc
  obtain ⟨q,hq⟩:∃ q,(k+cRows (rows.take j))=q:=⟨_,rfl⟩
  have hnext:k+(cRows (rows.take (j+1)):Int)=q+1:=by omega
  have hq1:1≤q:=by omega
  have hq2:q+1≤4611686018427387904:=by omega
  rw [hq] at hrow
  have hM:(mkRows mt k rows).getD (Int.toNat (j:Int)) []=[.i (q)]:=hrow
  simp only [hq]
  clear hrow hc hc2 hc3
  have hw0:IntKind.i64.wrap (q+1)=q+1:=IntWalk.i64_in _ (by omega)
  repeat' first
    | (refine And.intro ?_ ?_)
    | (rw [hM])
    | (intro h;simp only [reduceCtorEq] at h;done)
    | (rw [hw0])
    | (intro h;exact hdS h)
    | (intro h;exact hdZ rfl h)
    | (intro h;exact absurd (of_decide_eq_true h) (by omega))
    | (intro h;exact absurd (of_decide_eq_false h) (by rw [hml];omega))
    | (intro h)
  all_goals first
    | (show lowEdges _=true;kernel_rfl)|(show logOk _ _=true;kernel_rfl)|exact True.intro|exact Or.inr rfl|exact Or.inl rfl
    | exact rfl
    | with_reducible exact Int.natCast_nonneg _
    | (show (j:Int) < (((mkRows mt k rows)).length:Int);rw [hml];omega)
    | (show (Int.toNat (j:Int)) < _;rw [hml,Int.toNat_natCast];exact hlt)
    | exact ⟨_,by omega,by omega,rfl⟩
    | (refine ⟨rows.length - (j+1),by omega,j+1,?_,by omega,rfl⟩
       exact snapRZ2 (f:=fun y z=>(([argS 3 (mkRows mt k rows),.val false [.i .i64 y],.val false [.i .i64 z]],[]):Snap)) (by first|exact hnext.symm|omega) (wrapJ hlt hs))
    | skip
theorem hd77 (mt:Int→ByteArray) (hmt:FOk Tryz.prog T 81 (spMT mt)):FOk Tryz.prog T 77 (spHd mt 3):=FOk.held (hd77n mt hmt)
theorem hd62n (mt:Int→ByteArray) (hmt:FOk Tryz.prog T 81 (spMT mt)) (n:Nat):FOk Tryz.prog T 62 (spHdn mt 9 n):=by
  refine fok (env:=envL [(81,(spMT mt))]) (N:=22) tabT (envL_cons hmt envL_nil) mixed Tryz.func62 rfl Tryz.call62 Tryz.ntmps62 ?_
  rintro args ⟨rows,k,h1,h2,wf,hwn,rfl⟩ hwf
  clear hwf
  have hs:=wf.short
  refine ⟨by simp,?_⟩
  rw [Tryz.results62]
  repeat' first
    | (refine And.intro ?_ ?_)
    | (intro h;simp only [reduceCtorEq] at h;done)
    | (intro h)
  all_goals first
    | (show lowEdges _=true;kernel_rfl)|(show logOk _ _=true;kernel_rfl)|exact True.intro|exact Or.inr rfl|exact Or.inl rfl
    | skip
  refine awp_loop (Q:=_) [0,1,5] [] (fun m st=>∃ j:Nat,st=([argS 9 (mkRows mt k rows),.val false [.i .i64 (k+cRows (rows.take j))],.val false [.i .i64 (j:Int)]],[])∧j≤rows.length∧m=rows.length - j) ?_ ?_
  · refine ⟨rfl,rows.length,0,?_,Nat.zero_le _,rfl⟩
    exact congrArg (fun z:Int=>(([argS 9 (mkRows mt k rows),.val false [.i .i64 z],.val false [.i .i64 0]],[]):Snap)) (show k=k+((0:Nat):Int) by omega)
  rintro m st ⟨j,rfl,hj,rfl⟩
  have hml:=mkRows_length (mt:=mt) rows k
  by_cases hge:rows.length≤j
  · have ht:rows.take j=rows:=List.take_of_length_le (by omega)
    repeat' first
      | (refine And.intro ?_ ?_)
      | (intro h;simp only [reduceCtorEq] at h;done)
      | (intro h;exact absurd (of_decide_eq_true h) (by rw [hml];omega))
      | (intro h)
    all_goals first
      | (show lowEdges _=true;kernel_rfl)|(show logOk _ _=true;kernel_rfl)|exact True.intro|exact Or.inr rfl|exact Or.inl rfl
      | exact rfl
      | exact congrArg (fun z:Int=>[CV.i .i64 z]) (by rw [ht,cRows_mk])
      | skip
  have hlt:j < rows.length:=by omega
  obtain ⟨x0,r0,hr,hr0⟩:=WfRow.str_ (wf.at_ (show T 9=some _ from rfl) hlt)
  obtain rfl:=hr0.end_
  clear hr0
  have hrow:=mkRows_row (mt:=mt) (k:=k) hlt
  rw [hr] at hrow
  have hc:=cRows_next hlt
  have hc2:=cRows_le rows (j+1)
  rw [hr] at hc
  have hc3:cRow [.s x0]=1+0:=rfl
  rw [hc3] at hc
  obtain ⟨q,hq⟩:∃ q,(k+cRows (rows.take j))=q:=⟨_,rfl⟩
  have hnext:k+(cRows (rows.take (j+1)):Int)=q+1:=by omega
  have hq1:1≤q:=by omega
  have hq2:q+1≤4611686018427387904:=by omega
  rw [hq] at hrow
  have hM:(mkRows mt k rows).getD (Int.toNat (j:Int)) []=[.s (mt (q))]:=hrow
  simp only [hq]
  clear hrow hc hc2 hc3
  have hw0:IntKind.i64.wrap (q+1)=q+1:=IntWalk.i64_in _ (by omega)
  repeat' first
    | (refine And.intro ?_ ?_)
    | (rw [hM])
    | (intro h;simp only [reduceCtorEq] at h;done)
    | (rw [hw0])
    | (intro h;exact hdS h)
    | (intro h;exact hdZ rfl h)
    | (intro h;exact absurd (of_decide_eq_true h) (by omega))
    | (intro h;exact absurd (of_decide_eq_false h) (by rw [hml];omega))
    | (intro h)
  all_goals first
    | (show lowEdges _=true;kernel_rfl)|(show logOk _ _=true;kernel_rfl)|exact True.intro|exact Or.inr rfl|exact Or.inl rfl
    | exact rfl
    | with_reducible exact Int.natCast_nonneg _
    | (show (j:Int) < (((mkRows mt k rows)).length:Int);rw [hml];omega)
    | (show (Int.toNat (j:Int)) < _;rw [hml,Int.toNat_natCast];exact hlt)
    | exact ⟨_,by omega,by omega,rfl⟩
    | (refine ⟨rows.length - (j+1),by omega,j+1,?_,by omega,rfl⟩
       exact snapRZ2 (f:=fun y z=>(([argS 9 (mkRows mt k rows),.val false [.i .i64 y],.val false [.i .i64 z]],[]):Snap)) (by first|exact hnext.symm|omega) (wrapJ hlt hs))
    | skip
theorem hd62 (mt:Int→ByteArray) (hmt:FOk Tryz.prog T 81 (spMT mt)):FOk Tryz.prog T 62 (spHd mt 9):=FOk.held (hd62n mt hmt)
theorem hd118n (mt:Int→ByteArray) (hmt:FOk Tryz.prog T 81 (spMT mt)) (n:Nat):FOk Tryz.prog T 118 (spHdn mt 167 n):=by
  refine fok (env:=envL []) (N:=31) tabT envL_nil mixed Tryz.func118 rfl Tryz.call118 Tryz.ntmps118 ?_
  rintro args ⟨rows,k,h1,h2,wf,hwn,rfl⟩ hwf
  clear hwf
  have hs:=wf.short
  refine ⟨by simp,?_⟩
  rw [Tryz.results118]
  repeat' first
    | (refine And.intro ?_ ?_)
    | (intro h;simp only [reduceCtorEq] at h;done)
    | (intro h)
  all_goals first
    | (show lowEdges _=true;kernel_rfl)|(show logOk _ _=true;kernel_rfl)|exact True.intro|exact Or.inr rfl|exact Or.inl rfl
    | skip
  refine awp_loop (Q:=_) [0,1,5] [] (fun m st=>∃ j:Nat,st=([argS 167 (mkRows mt k rows),.val false [.i .i64 (k+cRows (rows.take j))],.val false [.i .i64 (j:Int)]],[])∧j≤rows.length∧m=rows.length - j) ?_ ?_
  · refine ⟨rfl,rows.length,0,?_,Nat.zero_le _,rfl⟩
    exact congrArg (fun z:Int=>(([argS 167 (mkRows mt k rows),.val false [.i .i64 z],.val false [.i .i64 0]],[]):Snap)) (show k=k+((0:Nat):Int) by omega)
  rintro m st ⟨j,rfl,hj,rfl⟩
  have hml:=mkRows_length (mt:=mt) rows k
  by_cases hge:rows.length≤j
  · have ht:rows.take j=rows:=List.take_of_length_le (by omega)
    repeat' first
      | (refine And.intro ?_ ?_)
      | (intro h;simp only [reduceCtorEq] at h;done)
      | (intro h;exact absurd (of_decide_eq_true h) (by rw [hml];omega))
      | (intro h)
    all_goals first
      | (show lowEdges _=true;kernel_rfl)|(show logOk _ _=true;kernel_rfl)|exact True.intro|exact Or.inr rfl|exact Or.inl rfl
      | exact rfl
      | exact congrArg (fun z:Int=>[CV.i .i64 z]) (by rw [ht,cRows_mk])
      | skip
  have hlt:j < rows.length:=by omega
  obtain ⟨x0,r0,hr,hr0⟩:=WfRow.int_ (wf.at_ (show T 167=some _ from rfl) hlt)
  obtain ⟨x1,r1,rfl,hr1⟩:=WfRow.int_ hr0
  obtain rfl:=hr1.end_
  clear hr1
  have hrow:=mkRows_row (mt:=mt) (k:=k) hlt
  rw [hr] at hrow
  have hc:=cRows_next hlt
  have hc2:=cRows_le rows (j+1)
  rw [hr] at hc
  have hc3:cRow [.i x0,.i x1]=1+(1+0):=rfl
  rw [hc3] at hc
  obtain ⟨q,hq⟩:∃ q,(k+cRows (rows.take j))=q:=⟨_,rfl⟩
  have hnext:k+(cRows (rows.take (j+1)):Int)=q+1+1:=by omega
  have hq1:1≤q:=by omega
  have hq2:q+1+1≤4611686018427387904:=by omega
  rw [hq] at hrow
  have hM:(mkRows mt k rows).getD (Int.toNat (j:Int)) []=[.i (q),.i (q+1)]:=hrow
  simp only [hq]
  clear hrow hc hc2 hc3
  have hw0:IntKind.i64.wrap (q+1)=q+1:=IntWalk.i64_in _ (by omega)
  have hw1:IntKind.i64.wrap (q+1+1)=q+1+1:=IntWalk.i64_in _ (by omega)
  repeat' first
    | (refine And.intro ?_ ?_)
    | (rw [hM])
    | (intro h;simp only [reduceCtorEq] at h;done)
    | (rw [hw0])
    | (rw [hw1])
    | (intro h;exact hdS h)
    | (intro h;exact hdZ rfl h)
    | (intro h;exact absurd (of_decide_eq_true h) (by omega))
    | (intro h;exact absurd (of_decide_eq_false h) (by rw [hml];omega))
    | (intro h)
  all_goals first
    | (show lowEdges _=true;kernel_rfl)|(show logOk _ _=true;kernel_rfl)|exact True.intro|exact Or.inr rfl|exact Or.inl rfl
    | exact rfl
    | with_reducible exact Int.natCast_nonneg _
    | (show (j:Int) < (((mkRows mt k rows)).length:Int);rw [hml];omega)
    | (show (Int.toNat (j:Int)) < _;rw [hml,Int.toNat_natCast];exact hlt)
    | exact ⟨_,by omega,by omega,rfl⟩
    | (refine ⟨rows.length - (j+1),by omega,j+1,?_,by omega,rfl⟩
       exact snapRZ2 (f:=fun y z=>(([argS 167 (mkRows mt k rows),.val false [.i .i64 y],.val false [.i .i64 z]],[]):Snap)) (by first|exact hnext.symm|omega) (wrapJ hlt hs))
    | skip
theorem hd118 (mt:Int→ByteArray) (hmt:FOk Tryz.prog T 81 (spMT mt)):FOk Tryz.prog T 118 (spHd mt 167):=FOk.held (hd118n mt hmt)
theorem hd63n (mt:Int→ByteArray) (hmt:FOk Tryz.prog T 81 (spMT mt)) (n:Nat):FOk Tryz.prog T 63 (spHdn mt 131 n):=by
  refine fok (env:=envL [(77,(spHd mt 3)),(118,(spHd mt 167))]) (N:=31) tabT (envL_cons (hd77 mt hmt) (envL_cons (hd118 mt hmt) envL_nil)) mixed Tryz.func63 rfl Tryz.call63 Tryz.ntmps63 ?_
  rintro args ⟨rows,k,h1,h2,wf,hwn,rfl⟩ hwf
  clear hwf
  have hs:=wf.short
  refine ⟨by simp,?_⟩
  rw [Tryz.results63]
  repeat' first
    | (refine And.intro ?_ ?_)
    | (intro h;simp only [reduceCtorEq] at h;done)
    | (intro h)
  all_goals first
    | (show lowEdges _=true;kernel_rfl)|(show logOk _ _=true;kernel_rfl)|exact True.intro|exact Or.inr rfl|exact Or.inl rfl
    | skip
  refine awp_loop (Q:=_) [0,1,5] [] (fun m st=>∃ j:Nat,st=([argS 131 (mkRows mt k rows),.val false [.i .i64 (k+cRows (rows.take j))],.val false [.i .i64 (j:Int)]],[])∧j≤rows.length∧m=rows.length - j) ?_ ?_
  · refine ⟨rfl,rows.length,0,?_,Nat.zero_le _,rfl⟩
    exact congrArg (fun z:Int=>(([argS 131 (mkRows mt k rows),.val false [.i .i64 z],.val false [.i .i64 0]],[]):Snap)) (show k=k+((0:Nat):Int) by omega)
  rintro m st ⟨j,rfl,hj,rfl⟩
  have hml:=mkRows_length (mt:=mt) rows k
  by_cases hge:rows.length≤j
  · have ht:rows.take j=rows:=List.take_of_length_le (by omega)
    repeat' first
      | (refine And.intro ?_ ?_)
      | (intro h;simp only [reduceCtorEq] at h;done)
      | (intro h;exact absurd (of_decide_eq_true h) (by rw [hml];omega))
      | (intro h)
    all_goals first
      | (show lowEdges _=true;kernel_rfl)|(show logOk _ _=true;kernel_rfl)|exact True.intro|exact Or.inr rfl|exact Or.inl rfl
      | exact rfl
      | exact congrArg (fun z:Int=>[CV.i .i64 z]) (by rw [ht,cRows_mk])
      | skip
  have hlt:j < rows.length:=by omega
  obtain ⟨x0,r0,hr,wf0,hr0⟩:=WfRow.slW (wf.at_ (show T 131=some _ from rfl) hlt)
  obtain ⟨x1,r1,rfl,wf1,hr1⟩:=WfRow.slW hr0
  obtain rfl:=hr1.end_
  clear hr1
  have hrow:=mkRows_row (mt:=mt) (k:=k) hlt
  rw [hr] at hrow
  have hm0:wD (.l x0) < wD (.l rows):=wD_part hlt (j:=0) (by rw [hr];rfl)
  have hm1:wD (.l x1) < wD (.l rows):=wD_part hlt (j:=1) (by rw [hr];rfl)
  have hc:=cRows_next hlt
  have hc2:=cRows_le rows (j+1)
  rw [hr] at hc
  have hc3:cRow [.l x0,.l x1]=cRows x0+(cRows x1+0):=rfl
  rw [hc3] at hc
  obtain ⟨q,hq⟩:∃ q,(k+cRows (rows.take j))=q:=⟨_,rfl⟩
  have hnext:k+(cRows (rows.take (j+1)):Int)=q+cRows x0+cRows x1:=by omega
  have hq1:1≤q:=by omega
  have hq2:q+cRows x0+cRows x1≤4611686018427387904:=by omega
  rw [hq] at hrow
  have hM:(mkRows mt k rows).getD (Int.toNat (j:Int)) []=[.l (mkRows mt (q) x0),.l (mkRows mt (q+cRows x0) x1)]:=hrow
  simp only [hq]
  clear hrow hc hc2 hc3
  have hx0:cRows (([.l (mkRows mt (q) x0),.l (mkRows mt (q+cRows x0) x1)]:List D).getD 0 default).rows=cRows x0:=cRows_mk _ _
  have hx1:cRows (([.l (mkRows mt (q) x0),.l (mkRows mt (q+cRows x0) x1)]:List D).getD 1 default).rows=cRows x1:=cRows_mk _ _
  repeat' first
    | (refine And.intro ?_ ?_)
    | (rw [hM])
    | (intro h;simp only [reduceCtorEq] at h;done)
    | (rw [hx0])
    | (rw [hx1])
    | (intro h;exact hdS h)
    | (intro h;exact hdZ rfl h)
    | (intro h;exact absurd (of_decide_eq_true h) (by omega))
    | (intro h;exact absurd (of_decide_eq_false h) (by rw [hml];omega))
    | (intro h)
  all_goals first
    | (show lowEdges _=true;kernel_rfl)|(show logOk _ _=true;kernel_rfl)|exact True.intro|exact Or.inr rfl|exact Or.inl rfl
    | exact rfl
    | with_reducible exact Int.natCast_nonneg _
    | (show (j:Int) < (((mkRows mt k rows)).length:Int);rw [hml];omega)
    | (show (Int.toNat (j:Int)) < _;rw [hml,Int.toNat_natCast];exact hlt)
    | exact ⟨_,by omega,by omega,rfl⟩
    | exact ⟨x0,q,by omega,by omega,wf0,rfl⟩
    | exact ⟨x1,q+cRows x0,by omega,by omega,wf1,rfl⟩
    | (refine ⟨rows.length - (j+1),by omega,j+1,?_,by omega,rfl⟩
       exact snapRZ2 (f:=fun y z=>(([argS 131 (mkRows mt k rows),.val false [.i .i64 y],.val false [.i .i64 z]],[]):Snap)) (by first|exact hnext.symm|omega) (wrapJ hlt hs))
    | skip
theorem hd63 (mt:Int→ByteArray) (hmt:FOk Tryz.prog T 81 (spMT mt)):FOk Tryz.prog T 63 (spHd mt 131):=FOk.held (hd63n mt hmt)
theorem hd061 (mt:Int→ByteArray):FOk Tryz.prog T 61 (spHdn mt 53 0):=by
  refine fok (env:=envL []) (N:=77) tabT envL_nil mixed Tryz.func61 rfl Tryz.call61 Tryz.ntmps61 ?_
  exact fun args ⟨rows,k,h1,h2,wf,hwn,h⟩=>absurd hwn (Nat.not_lt_zero _)
theorem hdS61_ (mt:Int→ByteArray) (hmt:FOk Tryz.prog T 81 (spMT mt)) (n:Nat) (ih:FOk Tryz.prog T 61 (spHdn mt 53 n)):FOk Tryz.prog T 61 (spHdn mt 53 (n+1)):=by
  refine fok (env:=envL [(81,(spMT mt)),(61,(spHdn mt 53 n)),(62,(spHd mt 9)),(63,(spHd mt 131))]) (N:=77) tabT (envL_cons hmt (envL_cons ih (envL_cons (hd62 mt hmt) (envL_cons (hd63 mt hmt) envL_nil)))) mixed Tryz.func61 rfl Tryz.call61 Tryz.ntmps61 ?_
  rintro args ⟨rows,k,h1,h2,wf,hwn,rfl⟩ hwf
  clear hwf
  have hs:=wf.short
  refine ⟨by simp,?_⟩
  rw [Tryz.results61]
  repeat' first
    | (refine And.intro ?_ ?_)
    | (intro h;simp only [reduceCtorEq] at h;done)
    | (intro h)
  all_goals first
    | (show lowEdges _=true;kernel_rfl)|(show logOk _ _=true;kernel_rfl)|exact True.intro|exact Or.inr rfl|exact Or.inl rfl
    | skip
  refine awp_loop (Q:=_) [0,1,5] [] (fun m st=>∃ j:Nat,st=([argS 53 (mkRows mt k rows),.val false [.i .i64 (k+cRows (rows.take j))],.val false [.i .i64 (j:Int)]],[])∧j≤rows.length∧m=rows.length - j) ?_ ?_
  · refine ⟨rfl,rows.length,0,?_,Nat.zero_le _,rfl⟩
    exact congrArg (fun z:Int=>(([argS 53 (mkRows mt k rows),.val false [.i .i64 z],.val false [.i .i64 0]],[]):Snap)) (show k=k+((0:Nat):Int) by omega)
  rintro m st ⟨j,rfl,hj,rfl⟩
  have hml:=mkRows_length (mt:=mt) rows k
  by_cases hge:rows.length≤j
  · have ht:rows.take j=rows:=List.take_of_length_le (by omega)
    repeat' first
      | (refine And.intro ?_ ?_)
      | (intro h;simp only [reduceCtorEq] at h;done)
      | (intro h;exact absurd (of_decide_eq_true h) (by rw [hml];omega))
      | (intro h)
    all_goals first
      | (show lowEdges _=true;kernel_rfl)|(show logOk _ _=true;kernel_rfl)|exact True.intro|exact Or.inr rfl|exact Or.inl rfl
      | exact rfl
      | exact congrArg (fun z:Int=>[CV.i .i64 z]) (by rw [ht,cRows_mk])
      | skip
  have hlt:j < rows.length:=by omega
  obtain ⟨x0,r0,hr,hr0⟩:=WfRow.int_ (wf.at_ (show T 53=some _ from rfl) hlt)
  obtain ⟨x1,r1,rfl,hr1⟩:=WfRow.int_ hr0
  obtain ⟨x2,r2,rfl,hr2⟩:=WfRow.int_ hr1
  obtain ⟨x3,r3,rfl,hr3⟩:=WfRow.str_ hr2
  obtain ⟨x4,r4,rfl,wf4,hr4⟩:=WfRow.slW hr3
  obtain ⟨x5,r5,rfl,wf5,hr5⟩:=WfRow.slW hr4
  obtain ⟨x6,r6,rfl,wf6,hr6⟩:=WfRow.slW hr5
  obtain rfl:=hr6.end_
  clear hr6
  have hrow:=mkRows_row (mt:=mt) (k:=k) hlt
  rw [hr] at hrow
  have hm4:wD (.l x4) < wD (.l rows):=wD_part hlt (j:=4) (by rw [hr];rfl)
  have hm5:wD (.l x5) < wD (.l rows):=wD_part hlt (j:=5) (by rw [hr];rfl)
  have hm6:wD (.l x6) < wD (.l rows):=wD_part hlt (j:=6) (by rw [hr];rfl)
  have hc:=cRows_next hlt
  have hc2:=cRows_le rows (j+1)
  rw [hr] at hc
  have hc3:cRow [.i x0,.i x1,.i x2,.s x3,.l x4,.l x5,.l x6]=1+(1+(1+(1+(cRows x4+(cRows x5+(cRows x6+0)))))):=rfl
  rw [hc3] at hc
  obtain ⟨q,hq⟩:∃ q,(k+cRows (rows.take j))=q:=⟨_,rfl⟩
  have hnext:k+(cRows (rows.take (j+1)):Int)=q+1+1+1+1+cRows x4+cRows x5+cRows x6:=by omega
  have hq1:1≤q:=by omega
  have hq2:q+1+1+1+1+cRows x4+cRows x5+cRows x6≤4611686018427387904:=by omega
  rw [hq] at hrow
  have hM:(mkRows mt k rows).getD (Int.toNat (j:Int)) []=[.i (q),.i (q+1),.i (q+1+1),.s (mt (q+1+1+1)),.l (mkRows mt (q+1+1+1+1) x4),.l (mkRows mt (q+1+1+1+1+cRows x4) x5),.l (mkRows mt (q+1+1+1+1+cRows x4+cRows x5) x6)]:=hrow
  simp only [hq]
  clear hrow hc hc2 hc3
  have hw0:IntKind.i64.wrap (q+1)=q+1:=IntWalk.i64_in _ (by omega)
  have hw1:IntKind.i64.wrap (q+1+1)=q+1+1:=IntWalk.i64_in _ (by omega)
  have hw2:IntKind.i64.wrap (q+1+1+1)=q+1+1+1:=IntWalk.i64_in _ (by omega)
  have hw3:IntKind.i64.wrap (q+1+1+1+1)=q+1+1+1+1:=IntWalk.i64_in _ (by omega)
  have hx4:cRows (([.i (q),.i (q+1),.i (q+1+1),.s (mt (q+1+1+1)),.l (mkRows mt (q+1+1+1+1) x4),.l (mkRows mt (q+1+1+1+1+cRows x4) x5),.l (mkRows mt (q+1+1+1+1+cRows x4+cRows x5) x6)]:List D).getD 4 default).rows=cRows x4:=cRows_mk _ _
  have hx5:cRows (([.i (q),.i (q+1),.i (q+1+1),.s (mt (q+1+1+1)),.l (mkRows mt (q+1+1+1+1) x4),.l (mkRows mt (q+1+1+1+1+cRows x4) x5),.l (mkRows mt (q+1+1+1+1+cRows x4+cRows x5) x6)]:List D).getD 5 default).rows=cRows x5:=cRows_mk _ _
  have hx6:cRows (([.i (q),.i (q+1),.i (q+1+1),.s (mt (q+1+1+1)),.l (mkRows mt (q+1+1+1+1) x4),.l (mkRows mt (q+1+1+1+1+cRows x4) x5),.l (mkRows mt (q+1+1+1+1+cRows x4+cRows x5) x6)]:List D).getD 6 default).rows=cRows x6:=cRows_mk _ _
  repeat' first
    | (refine And.intro ?_ ?_)
    | (rw [hM])
    | (intro h;simp only [reduceCtorEq] at h;done)
    | (rw [hw0])
    | (rw [hw1])
    | (rw [hw2])
    | (rw [hw3])
    | (rw [hx4])
    | (rw [hx5])
    | (rw [hx6])
    | (intro h;exact hdS h)
    | (intro h;exact hdZ rfl h)
    | (intro h;exact absurd (of_decide_eq_true h) (by omega))
    | (intro h;exact absurd (of_decide_eq_false h) (by rw [hml];omega))
    | (intro h)
  all_goals first
    | (show lowEdges _=true;kernel_rfl)|(show logOk _ _=true;kernel_rfl)|exact True.intro|exact Or.inr rfl|exact Or.inl rfl
    | exact rfl
    | with_reducible exact Int.natCast_nonneg _
    | (show (j:Int) < (((mkRows mt k rows)).length:Int);rw [hml];omega)
    | (show (Int.toNat (j:Int)) < _;rw [hml,Int.toNat_natCast];exact hlt)
    | exact ⟨_,by omega,by omega,rfl⟩
    | exact ⟨x4,q+1+1+1+1,by omega,by omega,wf4,by omega,rfl⟩
    | exact ⟨x5,q+1+1+1+1+cRows x4,by omega,by omega,wf5,rfl⟩
    | exact ⟨x6,q+1+1+1+1+cRows x4+cRows x5,by omega,by omega,wf6,rfl⟩
    | (refine ⟨rows.length - (j+1),by omega,j+1,?_,by omega,rfl⟩
       exact snapRZ2 (f:=fun y z=>(([argS 53 (mkRows mt k rows),.val false [.i .i64 y],.val false [.i .i64 z]],[]):Snap)) (by first|exact hnext.symm|omega) (wrapJ hlt hs))
    | skip
theorem hd61n (mt:Int→ByteArray) (hmt:FOk Tryz.prog T 81 (spMT mt)):∀ n,FOk Tryz.prog T 61 (spHdn mt 53 n)
  | 0=>hd061 mt
  | n+1=>hdS61_ mt hmt n (hd61n mt hmt n)
theorem hd61 (mt:Int→ByteArray) (hmt:FOk Tryz.prog T 81 (spMT mt)):FOk Tryz.prog T 61 (spHd mt 53):=FOk.held (hd61n mt hmt)
def spHdG (mt:Int→ByteArray) (cts:List CT):FSpec where
  pre args:=∃ (row:List D) (k:Int),1≤k∧k+cSl row≤4611686018427387904∧WfRow T cts row∧args=[argG cts (mkSl mt k row),.val false [.i .i64 k]]
  res args:=match args with
    | [.val _ cs,.val _ [.i _ k]]=>.val false [.i .i64 (k+cSl (csD cs))]
    | _=>.none
theorem hg28 (mt:Int→ByteArray) (hmt:FOk Tryz.prog T 81 (spMT mt)):FOk Tryz.prog T 28 (spHdG mt [.i .i64,.i .i64,.i .i64,.s,.l 53,.l 9,.l 131]):=by
  refine fok (env:=envL [(61,(spHd mt 53)),(62,(spHd mt 9)),(63,(spHd mt 131))]) (N:=24) tabT (envL_cons (hd61 mt hmt) (envL_cons (hd62 mt hmt) (envL_cons (hd63 mt hmt) envL_nil))) mixed Tryz.func28 rfl Tryz.call28 Tryz.ntmps28 ?_
  rintro args ⟨row,k,h1,h2,hw,rfl⟩ hwf
  clear hwf
  obtain ⟨x0,r0,rfl,hr0⟩:=WfRow.int_ hw
  obtain ⟨x1,r1,rfl,hr1⟩:=WfRow.int_ hr0
  obtain ⟨x2,r2,rfl,hr2⟩:=WfRow.int_ hr1
  obtain ⟨x3,r3,rfl,hr3⟩:=WfRow.str_ hr2
  obtain ⟨x4,r4,rfl,wf4,hr4⟩:=WfRow.slW hr3
  obtain ⟨x5,r5,rfl,wf5,hr5⟩:=WfRow.slW hr4
  obtain ⟨x6,r6,rfl,wf6,hr6⟩:=WfRow.slW hr5
  obtain rfl:=hr6.end_
  clear hw hr0 hr1 hr2 hr3 hr4 hr5 hr6
  have h2' : k+((cRows x4+(cRows x5+(cRows x6+0)):Nat):Int)≤4611686018427387904:=h2
  have hx4:cRows (((mkSl mt k ([.i x0,.i x1,.i x2,.s x3,.l x4,.l x5,.l x6]:List D)).getD (0+1+1+1+1) default).rows)=cRows x4:=cRows_mk _ _
  have hx5:cRows (((mkSl mt k ([.i x0,.i x1,.i x2,.s x3,.l x4,.l x5,.l x6]:List D)).getD (0+1+1+1+1+1) default).rows)=cRows x5:=cRows_mk _ _
  have hx6:cRows (((mkSl mt k ([.i x0,.i x1,.i x2,.s x3,.l x4,.l x5,.l x6]:List D)).getD (0+1+1+1+1+1+1) default).rows)=cRows x6:=cRows_mk _ _
  refine ⟨by simp,?_⟩
  rw [Tryz.results28]
  repeat' first
    | (refine And.intro ?_ ?_)
    | (rw [hx4])
    | (rw [hx5])
    | (rw [hx6])
    | (intro h;simp only [reduceCtorEq] at h;done)
    | (intro h;exact absurd (of_decide_eq_true h) (by omega))
    | (intro h)
  all_goals first
    | (show lowEdges _=true;kernel_rfl)|(show logOk _ _=true;kernel_rfl)|exact True.intro|exact Or.inr rfl|exact Or.inl rfl
    | exact ⟨x4,k,by omega,by omega,wf4,rfl⟩
    | exact ⟨x5,k+cRows x4,by omega,by omega,wf5,rfl⟩
    | exact ⟨x6,k+cRows x4+cRows x5,by omega,by omega,wf6,rfl⟩
    | exact congrArg (fun z:Int=>[CV.i .i64 z]) (show k+cRows x4+cRows x5+cRows x6=k+((cRows (mkRows mt (k) x4)+(cRows (mkRows mt (k+cRows x4) x5)+(cRows (mkRows mt (k+cRows x4+cRows x5) x6)+0)):Nat):Int) by simp only [cRows_mk];omega)
    | skip
end Go.Proofs.YtkpnfbdoaljkpaaGreatDoor.Ab
