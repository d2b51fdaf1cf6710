/- A part. -/
import Derived.Test.YtdkofgjbbdbglaaGreatDoorCOg
namespace Go.Proofs.YtdkofgjbbdbglaaGreatDoor.Ab
open Go.RowKit
set_option linter.all false
set_option maxRecDepth 100000
set_option maxHeartbeats 2000000
noncomputable abbrev pG:FSpec:=spTx T cO SmO (fun a=>recT (aJ a))
theorem okR18:FOk Tryz.prog T 18 pG:=ok18 aJ (fun a h=>eY h) ok34
theorem okR16:FOk Tryz.prog T 16 pG:=ok16 aJ (fun a h=>eY h) ok30
set_option maxHeartbeats 8000000 in
theorem xo20 (po:ByteArray→List D × Bool) (hw:PoOk po) (hpo:FOk Tryz.prog T 38 (dA cO po)):FOk Tryz.prog T 20 (spPR cO (recS po)):=by
 refine fok (env:=envL [(37,spIn),(38,(dA cO po)),(18,pG)]) (N:=79) tabT (aa ok37 (aa hpo (aa okR18 ae))) mixed Tryz.func20 rfl Tryz.call20 Tryz.ntmps20 ?_
 rintro args ⟨s,k,hs,rfl⟩ hwf'
 clear hwf'
 refine ⟨by simp,?_⟩
 rw [Tryz.results20]
 repeat' first
  | refine And.intro ?_ ?_
  | (intro h;simp only [reduceCtorEq] at h;done)
  | (intro h;rw [h])
  | intro h
 all_goals first
  | exact True.intro
  | exact Or.inr rfl
  | exact ⟨_,_,_,rfl⟩
  | exact iv (p:=(bB,0)) (vG (by assumption)) rfl rfl
  | skip
 obtain ⟨n,rfl,hn⟩:=zE (by assumption)
 refine aj (Q:=_) [0,1,4,6] [4] (fun m st=>∃ e f:Nat,st=([sArg s,iArg (n:Int),.ptr 4 1 0,iArg (e:Int)],[(1,[.val false [.i .i64 0],.val false [.i .i64 0],.val false [.i .i64 0],.val false [.sl true 3 []],.val false [.i .i64 0],.val false [.i .i64 0],.val false [.i .i64 0],.val false [.i .i64 0],.val false [.i .i64 0],.val false [.s ByteArray.empty],.val false [.s ByteArray.empty],.val false [.i .i64 0],.val false [.s ByteArray.empty],.val false [.s ByteArray.empty],.val false [.i .i64 0],.val false [.i .i64 0],.val false [.sl true 76 []]])])∧n≤e∧e≤s.size∧s.size≤e+f∧eolN s f e=eolK s n∧m=s.size - e) ?_ ?_
 · exact ⟨rfl,s.size - n,n,s.size,rfl,jdm _,hn,by omega,rfl,rfl⟩
 rintro m st ⟨e,f,rfl,h1,h2,h3,hE,rfl⟩
 repeat' first
  | refine And.intro ?_ ?_
  | (intro h;simp only [reduceCtorEq] at h;done)
  | (intro h;rw [h])
  | intro h
 all_goals first
  | exact rfl
  | with_reducible exact jdk _
  | exact jc6 (by with_reducible assumption)
  | (have hlt:e < s.size:=by have:=jc6 (show decide ((e:Int) < (s.size:Int))=true by assumption);omega
     obtain ⟨g,rfl,hg⟩:=zQ hlt (ne10 (by assumption)) h3
     refine ⟨s.size - (e+1),by omega,e+1,g,?_,by omega,by omega,by omega,by rw [← hg];exact hE,rfl⟩
     exact jbk (f:=fun z=>(([sArg s,iArg (n:Int),.ptr 4 1 0,iArg z],[(1,[.val false [.i .i64 0],.val false [.i .i64 0],.val false [.i .i64 0],.val false [.sl true 3 []],.val false [.i .i64 0],.val false [.i .i64 0],.val false [.i .i64 0],.val false [.i .i64 0],.val false [.i .i64 0],.val false [.s ByteArray.empty],.val false [.s ByteArray.empty],.val false [.i .i64 0],.val false [.s ByteArray.empty],.val false [.s ByteArray.empty],.val false [.i .i64 0],.val false [.i .i64 0],.val false [.sl true 76 []]])]):Snap)) (wrapN (n:=s.size) hlt (by simp only [maxLen];omega)))
  | skip
 all_goals
  have hEe:eolK s n=e:=by
   rw [← hE]
   refine uk ?_
   rintro ⟨a1,a2⟩
   first
    | (have:=jdh (show decide ((e:Int) < (s.size:Int))=false by assumption);omega)
    | exact a2 (is10 (by assumption))
  refine aj (Q:=_) [0,1,4,6,7] [4] (fun m st=>∃ p:Nat,st=([sArg s,iArg (n:Int),.ptr 4 1 0,iArg (e:Int),iArg (p:Int)],[(1,[.val false [.i .i64 0],.val false [.i .i64 0],.val false [.i .i64 0],.val false [.sl true 3 []],.val false [.i .i64 0],.val false [.i .i64 0],.val false [.i .i64 0],.val false [.i .i64 0],.val false [.i .i64 0],.val false [.s ByteArray.empty],.val false [.s ByteArray.empty],.val false [.i .i64 0],.val false [.s ByteArray.empty],.val false [.s ByteArray.empty],.val false [.i .i64 0],.val false [.i .i64 0],.val false [.sl true 76 []]])])∧n≤p∧p≤e∧spN s n p=spN s n e∧m=p) ?_ ?_
  · exact ⟨rfl,e,e,rfl,h1,jdm _,rfl,rfl⟩
  rintro m st ⟨p,rfl,h4,h5,hP,hm⟩
  repeat' first
   | refine And.intro ?_ ?_
   | (intro h;simp only [reduceCtorEq] at h;done)
   | (intro h;rw [h])
   | intro h
  all_goals first
   | (show av _=true;kernel_rfl)
   | (show ba _ _=true;kernel_rfl)
   | exact True.intro
   | exact Or.inr rfl
   | exact rfl
   | (have hlt:n < p:=by have:=jc6 (show decide ((p:Int) > (n:Int))=true by assumption);omega
      first
       | (rw [qr hlt (by omega)];exact jdk _)
       | (rw [qr hlt (by omega)];omega)
       | (have hg:=ja6 hlt (ne32 hlt (by omega) (by assumption))
          refine ⟨p - 1,by omega,p - 1,?_,by omega,by omega,by rw [← hg];exact hP,rfl⟩
          exact jbk (f:=fun z=>(([sArg s,iArg (n:Int),.ptr 4 1 0,iArg (e:Int),iArg z],[(1,[.val false [.i .i64 0],.val false [.i .i64 0],.val false [.i .i64 0],.val false [.sl true 3 []],.val false [.i .i64 0],.val false [.i .i64 0],.val false [.i .i64 0],.val false [.i .i64 0],.val false [.i .i64 0],.val false [.s ByteArray.empty],.val false [.s ByteArray.empty],.val false [.i .i64 0],.val false [.s ByteArray.empty],.val false [.s ByteArray.empty],.val false [.i .i64 0],.val false [.i .i64 0],.val false [.sl true 76 []]])]):Snap)) (qr hlt (by omega))))
   | skip
  all_goals
   have hPp:spK s n=p:=by
    show spN s n (eolK s n)=p
    rw [hEe, ← hP]
    refine vt h4 ?_
    rintro ⟨a1,a2⟩
    first
     | (have:=jdh (show decide ((p:Int) > (n:Int))=false by assumption);omega)
     | exact a2 (is32 a1 (by omega) (by assumption))
   have hR:recS po s (n:Int)=recN po s n e p:=ma hn hEe hPp
   first
    | exact iv (hR.trans (jbD (by assumption))) rfl rfl
    | exact iv (hR.trans (jbC (by assumption))) rfl rfl
    | with_reducible exact jdk _
    | (have g1:((e:Int) == (s.size:Int))=false:=by assumption
       have g2:((p:Int) == (n:Int))=false:=by assumption
       have g3:=beq_eq_false_iff_ne.1 g1
       have g4:=beq_eq_false_iff_ne.1 g2
       have hlt:n < p:=by omega
       rw [qr hlt (by omega)] at *
       first
        | (rw [yl (by omega)];omega)
        | omega
        | (have hxs:(s.extract (Int.toNat (n:Int)) (Int.toNat ((p - 1:Nat):Int))).size≤1048576:=by rw [jdv];omega
           generalize hX:s.extract (Int.toNat (n:Int)) (Int.toNat ((p - 1:Nat):Int))=x at *
           have hX' : x=s.extract n (p - 1):=hX.symm
           obtain ⟨wo,so⟩:=hw x hxs
           have w7:csD (rowC cO (po x).1)=(po x).1:=aw wo
           have hY:s.extract (Int.toNat (n:Int)) (Int.toNat (IntKind.i64.wrap ((e:Int)+1)))=s.extract n (e+1):=by rw [yl (by omega)];rfl
           first
            | exact ⟨_,hxs,rfl⟩
            | exact ⟨_,wo,so,rfl⟩
            | exact iv (hR.trans (jbB hX' (by assumption))) rfl rfl
            | (have hz:(!(recT (aJ (po x).1)).toList == (s.extract (Int.toNat (n:Int)) (Int.toNat (IntKind.i64.wrap ((e:Int)+1)))).toList)=true:=by rw [← w7];assumption
               exact iv (hR.trans (jbA hX' hY hz)) rfl rfl)
            | (have hz:(!(recT (aJ (po x).1)).toList == (s.extract (Int.toNat (n:Int)) (Int.toNat (IntKind.i64.wrap ((e:Int)+1)))).toList)=false:=by rw [← w7];assumption
               exact iv (hR.trans (jbz g1 g2 hX' hY (by assumption) hz)) rfl (wrapE h1 (by omega)))))
 skip
section
variable {po:ByteArray→List D × Bool} {s t x y:ByteArray} {n:Nat} {k j:Int}
theorem jbF (h:decide (k < 0)=true):recI po s k=(bB,0):=if_pos (.inl (jc6 h))
theorem jbE (h:decide (k ≥ (s.size:Int))=true):recI po s k=(bB,0):=if_pos (.inr (jc6 h))
theorem vH (h:decide (k < 0)=false) (h2:decide (k ≥ (s.size:Int))=false):∃ n:Nat,k=n∧n < s.size:=by
 have:=jdh h
 have:=jdh h2
 exact ⟨k.toNat,by omega,by omega⟩
theorem yV (hn:n < s.size) (ht:t=s.extract n s.size):recI po s (n:Int)=iB po (cutL t) (cutF t) (Lib.lastIndexByte (cutL t) 32):=by
 unfold recI
 rw [if_neg (by omega),jds,ht]
theorem zw {f:Bool} (h:(!f)=true):iB po x f j=(bB,0):=if_pos (.inl (bi h))
theorem zv {f:Bool} (h:decide (j < 0)=true):iB po x f j=(bB,0):=if_pos (.inr (jc6 h))
theorem zu {f:Bool} (hy:y=x.extract 0 j.toNat) (h:(!(po y).2)=true):iB po x f j=(bB,0):=by
 unfold iB
 rw [← hy]
 split
 · rfl
 · rw [if_neg (fun c=>by rw [c.1] at h;cases h)]
theorem zt {f:Bool} (hy:y=x.extract 0 j.toNat) (h:(!(recT (aJ (po y).1)).toList == (x++NL).toList)=true):iB po x f j=(bB,0):=by
 unfold iB
 rw [← hy]
 split
 · rfl
 · rw [if_neg (fun c=>by rw [c.2] at h;simp at h)]
theorem zq {f:Bool} (h1:(!f)=false) (h2:decide (j < 0)=false) (hy:y=x.extract 0 j.toNat) (h3:(!(po y).2)=false) (h:(!(recT (aJ (po y).1)).toList == (x++NL).toList)=false):iB po x f j=((po y).1,((x.size+1:Nat):Int)):=by
 unfold iB
 rw [← hy]
 have a1:=aE h1
 have a2:=jdh h2
 rw [if_neg (by rw [a1];simp;omega),if_pos ⟨aE h3,(aW _ _).mp (eq_of_beq (aE h))⟩]
end
theorem jbL {t:ByteArray} (h:t.size≤1048576):spCut.pre [.val false [.s t],.val false [.s NL]]:=⟨t,h,rfl⟩
theorem y9 {t:ByteArray} (h:t.size≤1048576):spLast.pre [.val false [.s t],.val false [.i .u8 32]]:=⟨t,h,rfl⟩
theorem prePo {cts:List CT} {po:ByteArray→List D × Bool} {t:ByteArray} (h:t.size≤1048576):(dA cts po).pre [.val false [.s t]]:=⟨t,h,rfl⟩
set_option maxHeartbeats 8000000 in
theorem xo21 (po:ByteArray→List D × Bool) (hw:PoOk po) (hpo:FOk Tryz.prog T 41 (dA cO po)):FOk Tryz.prog T 21 (spPR cO (recI po)):=by
 refine fok (env:=envL [(39,spCut),(40,spLast),(41,(dA cO po)),(16,pG)]) (N:=59) tabT (aa okCut (aa okLast (aa hpo (aa okR16 ae)))) mixed Tryz.func21 rfl Tryz.call21 Tryz.ntmps21 ?_
 rintro args ⟨s,k,hs,rfl⟩ hwf'
 clear hwf'
 refine ⟨by simp,?_⟩
 rw [Tryz.results21]
 repeat' first
  | refine And.intro ?_ ?_
  | (intro h;simp only [reduceCtorEq] at h;done)
  | (intro h;rw [h])
  | intro h
 all_goals first
  | exact True.intro
  | exact Or.inr rfl
  | exact iv (p:=(bB,0)) (jbF (by with_reducible assumption)) rfl rfl
  | exact iv (p:=(bB,0)) (jbE (by with_reducible assumption)) rfl rfl
  | (obtain ⟨n, rfl, hn⟩:=vH (k:=k) (s:=s) (by with_reducible assumption) (by with_reducible assumption)
     first
      | with_reducible exact jdk _
      | omega
      | (have hts : (s.extract (Int.toNat (n:Int)) (Int.toNat (s.size:Int))).size≤1048576:=by rw [jdv];omega
         generalize hT:s.extract (Int.toNat (n:Int)) (Int.toNat (s.size:Int))=t at *
         have hI:recI po s (n:Int)=iB po (cutL t) (cutF t) (Lib.lastIndexByte (cutL t) 32):=yV hn hT.symm
         have hcl:=nQ t
         first
          | with_reducible exact jbL hts
          | with_reducible exact y9 (jdd hcl hts)
          | exact iv (hI.trans (zw (by with_reducible assumption))) rfl rfl
          | exact iv (hI.trans (zv (by with_reducible assumption))) rfl rfl
          | (have hj:decide (Lib.lastIndexByte (cutL t) 32 < 0)=false:=by with_reducible assumption
             have hj2:=jdh hj
             have hli:=tG (cutL t)
             first
              | omega
              | (show (cutL t).size+1≤maxLen;simp only [maxLen];omega)
              | (have hxs:((cutL t).extract (Int.toNat 0) (Int.toNat (Lib.lastIndexByte (cutL t) 32))).size≤1048576:=by rw [jdv];omega
                 generalize hX:(cutL t).extract (Int.toNat 0) (Int.toNat (Lib.lastIndexByte (cutL t) 32))=x at *
                 obtain ⟨wo,so⟩:=hw x hxs
                 have w7:csD (rowC cO (po x).1)=(po x).1:=aw wo
                 first
                  | with_reducible exact prePo hxs
                  | exact ⟨_,wo,so,rfl⟩
                  | exact iv (hI.trans (zu hX.symm (by with_reducible assumption))) rfl rfl
                  | (have hz:(!(recT (aJ (po x).1)).toList == (cutL t++NL).toList)=true:=by rw [← w7];assumption
                     exact iv (hI.trans (zt hX.symm hz)) rfl rfl)
                  | (have hz:(!(recT (aJ (po x).1)).toList == (cutL t++NL).toList)=false:=by rw [← w7];assumption
                     exact iv (hI.trans (zq (by with_reducible assumption) hj hX.symm (by with_reducible assumption) hz)) rfl (yl (by omega)))))))
theorem dc (r:List (List D)):inK .i64 (gN r).1:=jbJ _
theorem jm (rows:List (List D)) (i:Nat):(io rows i).length=i∧∀ r ∈ io rows i,WfRow T [.i .i64] r:=by
 unfold io
 refine ⟨by simp,fun r hr=>?_⟩
 obtain ⟨j,_,rfl⟩:=jdO.1 hr
 exact .cons (.int _ _ (dc _)) .nil
theorem jb2 {rows:List (List D)} (hs:SmW rows) {rd:List (List D)} (hr:rd.length≤1048576) (hrd:∀ r ∈ rd,RdOk r):WfRow T cO (opI rows rd)∧SmO (opI rows rd) :=
 yn (dc _) (dc _) (dc _) (by rw [(jm rows 3).1];exact jdm _) (jm rows 3).2 (dc _) (dc _) (dc _) (dc _) (dc _) (du (hs.dr _)) (du (hs.dr _)) (dc _) (du (hs.dr _)) (du (hs.dr _)) (dc _) (dc _) hr hrd
theorem sI {r:List (List D)} (hs:SmW r) {pv:ByteArray→List D × Bool} (hw:∀ t,t.size≤1048576→WfRow T cV (pv t).1∧wRow (pv t).1≤2097152):RdOk (rowI pv r) :=
 jbH (dc _) (dc _) (dc _) (du (hs.dr _)) (hw _ (du (hs.dr _))).1 (hw _ (du (hs.dr _))).2
set_option maxHeartbeats 8000000 in
theorem xo41 (pv:ByteArray→List D × Bool) (hw:∀ t,t.size≤1048576→WfRow T cV (pv t).1∧wRow (pv t).1≤2097152) (hpv:FOk Tryz.prog T 72 (dA cV pv)):FOk Tryz.prog T 41 (dA cO (poI pv)):=by
 refine fok (env:=envL [(69,(fW false)),(70,xe),(71,xa),(72,(dA cV pv)),(30,(vr T cO))]) (N:=145) tabT (aa ok69 (aa ok70 (aa ok71 (aa hpv (aa ok30 ae))))) mixed Tryz.func41 rfl Tryz.call41 Tryz.ntmps41 ?_
 rintro args ⟨s,hs,rfl⟩ hwf'
 clear hwf'
 have sm:=smW s hs
 have hlen:=lV s hs
 refine ⟨by simp,?_⟩
 rw [Tryz.results41]
 repeat' first
  | refine And.intro ?_ ?_
  | (intro h;simp only [reduceCtorEq] at h;done)
  | (intro h;rw [h])
  | intro h
 all_goals first
  | exact rfl
  | exact ⟨_,hs,rfl⟩
  | exact ⟨_,_,sm,rfl⟩
  | exact ⟨_,_,sm.dr 1,rfl⟩
  | exact ⟨_,_,sm.dr 2,rfl⟩
  | skip
 refine aj (Q:=_) [0,2,4,5,6] [2,13,5] (fun m st=>∃ i:Nat,st=([sArg s,.ptr 2 1 0,.ptr 13 1 0,.ptr 5 1 0,iArg (i:Int)],[(1,[.val false [.i .i64 0],.val false [.i .i64 0],.val false [.i .i64 0],.val false [.sl true 3 []],.val false [.i .i64 0],.val false [.i .i64 0],.val false [.i .i64 0],.val false [.i .i64 0],.val false [.i .i64 0],.val false [.s ByteArray.empty],.val false [.s ByteArray.empty],.val false [.i .i64 0],.val false [.s ByteArray.empty],.val false [.s ByteArray.empty],.val false [.i .i64 0],.val false [.i .i64 0],.val false [.sl true 76 []]]),(1,[.val false [.sl false 9 (dr (3+i) (ac (ah s)))],.val false [.b (okN (ac (ah s)) (3+i))]]),(1,[.val false [.i .i64 (numi (ac (ah s)) 0)],.val false [.i .i64 (numi (ac (ah s)) 1)],.val false [.i .i64 (numi (ac (ah s)) 2)],.val false [.sl true 3 (io (ac (ah s)) i)],.val false [.i .i64 0],.val false [.i .i64 0],.val false [.i .i64 0],.val false [.i .i64 0],.val false [.i .i64 0],.val false [.s ByteArray.empty],.val false [.s ByteArray.empty],.val false [.i .i64 0],.val false [.s ByteArray.empty],.val false [.s ByteArray.empty],.val false [.i .i64 0],.val false [.i .i64 0],.val false [.sl true 76 []]])])∧i≤3∧m=3 - i) ?_ ?_
 · exact ⟨rfl,3,0,rfl,by decide,rfl⟩
 rintro m st ⟨i,rfl,hi,rfl⟩
 repeat' first
  | refine And.intro ?_ ?_
  | (intro h;simp only [reduceCtorEq] at h;done)
  | (intro h;rw [h])
  | intro h
 all_goals first
  | (show av _=true;kernel_rfl)
  | (show ba _ _=true;kernel_rfl)
  | exact rfl
  | (have h3:i < 3:=by have:=jc6 (show decide ((i:Int) < 3)=true by assumption);omega
     first
      | exact ⟨_,_,sm.dr (3+i),rfl⟩
      | (show (io (ac (ah s)) i).length+1≤maxLen;rw [(jm (ac (ah s)) i).1];simp only [maxLen];omega)
      | (show ((io (ac (ah s)) i).length+1) * 8≤_;rw [(jm (ac (ah s)) i).1];omega)
      | (refine ⟨3 - (i+1),by omega,i+1,?_,by omega,rfl⟩
         exact jbo (f:=fun r q b z=>(([sArg s,.ptr 2 1 0,.ptr 13 1 0,.ptr 5 1 0,iArg z],[(1,[.val false [.i .i64 0],.val false [.i .i64 0],.val false [.i .i64 0],.val false [.sl true 3 []],.val false [.i .i64 0],.val false [.i .i64 0],.val false [.i .i64 0],.val false [.i .i64 0],.val false [.i .i64 0],.val false [.s ByteArray.empty],.val false [.s ByteArray.empty],.val false [.i .i64 0],.val false [.s ByteArray.empty],.val false [.s ByteArray.empty],.val false [.i .i64 0],.val false [.i .i64 0],.val false [.sl true 76 []]]),(1,[.val false [.sl false 9 q],.val false [.b b]]),(1,[.val false [.i .i64 (numi (ac (ah s)) 0)],.val false [.i .i64 (numi (ac (ah s)) 1)],.val false [.i .i64 (numi (ac (ah s)) 2)],.val false [.sl true 3 r],.val false [.i .i64 0],.val false [.i .i64 0],.val false [.i .i64 0],.val false [.i .i64 0],.val false [.i .i64 0],.val false [.s ByteArray.empty],.val false [.s ByteArray.empty],.val false [.i .i64 0],.val false [.s ByteArray.empty],.val false [.s ByteArray.empty],.val false [.i .i64 0],.val false [.i .i64 0],.val false [.sl true 76 []]])]):Snap)) (qE (ac (ah s)) i) rfl (okN_num (r:=(ac (ah s))) (j:=3+i) (by omega)).symm (wrapN h3 (by decide))))
  | (refine ⟨_,_,?_,rfl⟩;exact sm.dr _)
  | exact ⟨_,_,(sm.dr (3+i)).dr 1,rfl⟩
  | exact ⟨_,_,(sm.dr (3+i)).dr 2,rfl⟩
  | exact ⟨_,_,(sm.dr (3+i)).dr 3,rfl⟩
  | exact ⟨_,_,(sm.dr (3+i)).dr 4,rfl⟩
  | exact ⟨_,_,(sm.dr (3+i)).dr 5,rfl⟩
  | exact ⟨_,_,(sm.dr (3+i)).dr 6,rfl⟩
  | exact ⟨_,_,(sm.dr (3+i)).dr 7,rfl⟩
  | exact ⟨_,_,(sm.dr (3+i)).dr 8,rfl⟩
  | exact ⟨_,_,(sm.dr (3+i)).dr 9,rfl⟩
  | exact ⟨_,_,(sm.dr (3+i)).dr 10,rfl⟩
  | exact ⟨_,_,(sm.dr (3+i)).dr 11,rfl⟩
  | exact ⟨_,_,(sm.dr (3+i)).dr 12,rfl⟩
  | skip
 obtain rfl:i=3:=by have:=jdh (show decide ((i:Int) < 3)=false by assumption);omega
 refine aj (Q:=_) [0,2,4,5,7,8] [2,13,5] (fun m st=>∃ (i:Nat) (o r:List (List D)) (b:Bool),st=([sArg s,.ptr 2 1 0,.ptr 13 1 0,.ptr 5 1 0,iArg (numi (ac (ah s)) 18),iArg (i:Int)],[(1,[.val false [.i .i64 0],.val false [.i .i64 0],.val false [.i .i64 0],.val false [.sl true 3 []],.val false [.i .i64 0],.val false [.i .i64 0],.val false [.i .i64 0],.val false [.i .i64 0],.val false [.i .i64 0],.val false [.s ByteArray.empty],.val false [.s ByteArray.empty],.val false [.i .i64 0],.val false [.s ByteArray.empty],.val false [.s ByteArray.empty],.val false [.i .i64 0],.val false [.i .i64 0],.val false [.sl true 76 []]]),(1,[.val false [.sl false 9 r],.val false [.b b]]),(1,[.val false [.i .i64 (numi (ac (ah s)) 0)],.val false [.i .i64 (numi (ac (ah s)) 1)],.val false [.i .i64 (numi (ac (ah s)) 2)],.val false [.sl true 3 (io (ac (ah s)) 3)],.val false [.i .i64 (numi (ac (ah s)) 6)],.val false [.i .i64 (numi (ac (ah s)) 7)],.val false [.i .i64 (numi (ac (ah s)) 8)],.val false [.i .i64 (numi (ac (ah s)) 9)],.val false [.i .i64 (numi (ac (ah s)) 10)],.val false [.s (txti (ac (ah s)) 12)],.val false [.s (txti (ac (ah s)) 13)],.val false [.i .i64 (numi (ac (ah s)) 11)],.val false [.s (txti (ac (ah s)) 14)],.val false [.s (txti (ac (ah s)) 15)],.val false [.i .i64 (numi (ac (ah s)) 16)],.val false [.i .i64 (numi (ac (ah s)) 17)],.val false [.sl true 76 o]])])∧o.length=i∧5 * i≤(ac (ah s)).length+5∧SmW r∧r.length≤(ac (ah s)).length∧(b=true→r.length+5 * i≤(ac (ah s)).length)∧(∀ r ∈ o,RdOk r)∧rdsI pv (numi (ac (ah s)) 18) m i r b o=rdsI pv (numi (ac (ah s)) 18) ((ac (ah s)).length+2) 0 (dr 19 (ac (ah s))) (okN (ac (ah s)) 19) []∧1≤m∧(b=true→r.length+2≤m)) ?_ ?_
 · refine ⟨rfl,(ac (ah s)).length+2,0,[],dr 19 (ac (ah s)),okN (ac (ah s)) 19,rfl,rfl,jc7 _,sm.dr 19,by rw [iW];omega,fun _=>by rw [iW];omega,fun r h=>absurd h (jda),rfl,by omega,fun _=>by rw [iW];omega⟩
 rintro m st ⟨i,o,r,b,rfl,hol,hi,sr,hrl,hb,ho,hE,hm1,hm2⟩
 generalize hRW:(ac (ah s))=rw_ at *
 have ow:=jb2 sm (rd:=o) (by omega) ho
 have w7o:=aw ow.1
 repeat' first
  | refine And.intro ?_ ?_
  | (intro h;simp only [reduceCtorEq] at h;done)
  | (intro h;rw [h])
  | intro h
 all_goals first
  | exact True.intro
  | exact Or.inr rfl
  | exact rfl
  | exact ⟨_,_,sr,rfl⟩
  | exact ⟨_,_,sr.dr 1,rfl⟩
  | exact ⟨_,_,sr.dr 2,rfl⟩
  | exact ⟨_,_,sr.dr 3,rfl⟩
  | exact ⟨_,_,sr.dr 4,rfl⟩
  | exact ⟨_,du (sr.dr 4),rfl⟩
  | exact ⟨_,ow.1,ow.2,rfl⟩
  | exact absurd (show (!false)=false by with_reducible assumption) (by decide)
  | (have g1:(i:Int) < numi rw_ 18:=jc6 (by assumption)
     have gb:b=true:=by assumption
     subst gb
     have hb:=hb rfl
     have hm2:=hm2 rfl
     have hrow:csD (rowC cRd (rowI pv r))=rowI pv r:=aw (sI sr hw).1
     first
      | (show o.length+1≤maxLen;simp only [maxLen];omega)
      | (show (o.length+1) * 152≤_;omega)
      | (obtain ⟨m,rfl⟩:∃ m',m=m' + 1:=⟨m - 1,by omega⟩
         refine ⟨m,jd6 _,i+1,o++[rowI pv r],dr 5 r,ok5 r true,?_,by rw [jc8,hol];rfl,by omega,sr.dr 5,by rw [iW];omega,?_,?_,?_,by omega,?_⟩
         · exact jbo (f:=fun x q b z=>(([sArg s,.ptr 2 1 0,.ptr 13 1 0,.ptr 5 1 0,iArg (numi rw_ 18),iArg z],[(1,[.val false [.i .i64 0],.val false [.i .i64 0],.val false [.i .i64 0],.val false [.sl true 3 []],.val false [.i .i64 0],.val false [.i .i64 0],.val false [.i .i64 0],.val false [.i .i64 0],.val false [.i .i64 0],.val false [.s ByteArray.empty],.val false [.s ByteArray.empty],.val false [.i .i64 0],.val false [.s ByteArray.empty],.val false [.s ByteArray.empty],.val false [.i .i64 0],.val false [.i .i64 0],.val false [.sl true 76 []]]),(1,[.val false [.sl false 9 q],.val false [.b b]]),(1,[.val false [.i .i64 (numi rw_ 0)],.val false [.i .i64 (numi rw_ 1)],.val false [.i .i64 (numi rw_ 2)],.val false [.sl true 3 (io rw_ 3)],.val false [.i .i64 (numi rw_ 6)],.val false [.i .i64 (numi rw_ 7)],.val false [.i .i64 (numi rw_ 8)],.val false [.i .i64 (numi rw_ 9)],.val false [.i .i64 (numi rw_ 10)],.val false [.s (txti rw_ 12)],.val false [.s (txti rw_ 13)],.val false [.i .i64 (numi rw_ 11)],.val false [.s (txti rw_ 14)],.val false [.s (txti rw_ 15)],.val false [.i .i64 (numi rw_ 16)],.val false [.i .i64 (numi rw_ 17)],.val false [.sl true 76 x]])]):Snap)) (congrArg (fun r=>o++[r]) hrow) rfl rfl (wrapN (n:=rw_.length+1) (by omega) (by simp only [maxLen];omega))
         · intro h5
           have:=(ok5_T h5).1
           rw [iW];omega
         · intro x hx
           rcases jdG.1 hx with h|h
           · exact ho x h
           · rw [jdX.1 h];exact sI sr hw
         · rw [← hE,sU g1]
         · intro h5
           have:=(ok5_T h5).1
           rw [iW];omega))
  | (have hT:rdsI pv (numi rw_ 18) (rw_.length+2) 0 (dr 19 rw_) (okN rw_ 19) []=(r,b,o):=by
      refine hE.symm.trans (nc ?_)
      rintro ⟨a1,a2⟩
      first
       | exact absurd a1 (jdh (by assumption))
       | exact absurd (a2.symm.trans (by assumption:b=false)) Bool.noConfusion
     have hP:poI pv s=poOf (opI rw_ o) (b && (r.length == 0)) s:=by rw [jbQ hRW,hT]
     first
      | (have hbF:b=false:=by first|assumption|exact bi (by assumption)
         exact fA (hP.trans (tb (by rw [hbF];rfl))) rfl rfl)
      | (have hbT:b=true:=by first|assumption|exact aE (by assumption)
         first
          | (have hq:decide ((r.length:Int) > 0)=true:=by assumption
             have hq2:(r.length == 0)=false:=by have:=jc6 hq;rw [beq_eq_false_iff_ne];omega
             exact fA (hP.trans (tb (by rw [hq2];simp))) rfl rfl)
          | (have hq:decide ((r.length:Int) > 0)=false:=by assumption
             have hq2:(r.length == 0)=true:=by have:=jdh hq;rw [beq_iff_eq];omega
             first
              | (have hz:(!(aJ (opI rw_ o)).toList == s.toList)=true:=by rw [← w7o];assumption
                 exact fA (hP.trans (xA hz)) rfl rfl)
              | (have hz:(!(aJ (opI rw_ o)).toList == s.toList)=false:=by rw [← w7o];assumption
                 exact fA (hP.trans (xx (by rw [hbT,hq2];rfl) hz)) rfl rfl))))
end Go.Proofs.YtdkofgjbbdbglaaGreatDoor.Ab
