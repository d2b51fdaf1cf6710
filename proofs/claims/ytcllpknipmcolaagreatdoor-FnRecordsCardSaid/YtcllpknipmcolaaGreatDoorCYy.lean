/- The program's reading of values as a whole, exactly: printed by a program of this -/
import Derived.Test.YtcllpknipmcolaaGreatDoorCYw
namespace Go.Proofs.YtcllpknipmcolaaGreatDoor.Ab
open Go.RowKit
set_option linter.all false
set_option maxRecDepth 100000
set_option maxHeartbeats 2000000
theorem xk107:FOk Tryz.prog T 107 wH:=by
 refine fok (env:=envL [(154,(rL idxT))]) (N:=7) tabT (aa zD ae) mixed Tryz.func107 rfl Tryz.call107 Tryz.ntmps107 ?_
 rintro args ⟨t,rfl⟩ hwf
 refine ⟨by simp,?_⟩
 clear hwf
 rw [Tryz.results107]
 repeat' first
  | (refine And.intro ?_ ?_)
  | (intro h;simp only [reduceCtorEq] at h;done)
  | (intro h;rw [h])
  | (intro h)
 all_goals first
  | exact True.intro
  | exact Or.inr rfl
  | exact ⟨_,_,rfl⟩
  | exact resI (jbJ t)
theorem xw77 (num:ByteArray→Int→Bool→Rd3) (va vb vc:ByteArray→Int→Bool→Rd3) (hN:∀ s k b,PosIn s k→PosIn s (num s k b).2.1) (hA:∀ s k b,PosIn s k→PosIn s (va s k b).2.1) (hB:∀ s k b,PosIn s k→PosIn s (vb s k b).2.1)
 (wA:∀ s k b,PosIn s k→WfRow T cV (va s k b).1∧wRow (va s k b).1≤4194304) (wB:∀ s k b,PosIn s k→WfRow T cV (vb s k b).1∧wRow (vb s k b).1≤4194304)
 (hT:∀ s k b,PosIn s k→((va s k b).1.getD 3 default).str.size≤1048576) (hnum:FOk Tryz.prog T 108 (spRd cV (fun _ _ _=>True) num)) (hval:FOk Tryz.prog T 110 (rN cV va vb vc)):FOk Tryz.prog T 77 (uV cV (gi num va vb vc)):=by
 refine fokB (env:=envL [(105,pw),(107,wH),(106,(mN cV vErr)),(108,(spRd cV (fun _ _ _=>True) num)),(109,(uW cV vStr)),(110,(rN cV va vb vc)),(36,(fS false))]) (N:=137) tabT (aa xF (aa xk107 (aa xk106 (aa hnum (aa xk109 (aa hval (aa ok36 ae))))))) mixed Tryz.func77 rfl Tryz.call77 Tryz.ntmps77 ?_
 rintro cs args ⟨s,hz,he⟩ hwf
 simp only [jcK,SV.tup.injEq,jcO,true_and,and_true] at he
 obtain ⟨rfl,rfl⟩:=he
 have hp:PosIn s 0:=⟨hz,jc5 _,jcy _⟩
 refine ⟨by simp,?_⟩
 clear hwf
 rw [Tryz.results77]
 repeat' first
  | (refine And.intro ?_ ?_)
  | (intro h;simp only [reduceCtorEq] at h;done)
  | (intro h;rw [h])
  | (intro h)
 all_goals first
  | (show av _=true;kernel_rfl)
  | (show aX _ _=true;kernel_rfl)
  | exact True.intro
  | exact Or.inr rfl
  | exact rfl
  | exact ⟨_,_,_,_,hp,by decide,rfl⟩
  | exact ⟨_,rfl⟩
  | exact ⟨_,_,rfl⟩
  | (have h1:stB s 0 ERR=true:=by assumption
     have hP:tkK s 0 ERR=6:=uQ h1
     have hb:=bp h1
     have e6:(ERR.size:Int)=6:=rfl
     first
      | (show (0:Int)≤tkK s 0 ERR;rw [hP];decide)
      | (show tkK s 0 ERR≤(s.size:Int);rw [hP];omega)
      | exact jc5 _
      | (refine sw (congrArg (fun r:Rd3=>r.1) (jch h1)) ?_
         have ht:s.extract (tkK s 0 ERR).toNat (s.size:Int).toNat=s.extract 6 s.size:=by rw [hP];rfl
         exact congrArg (fun t=>rowC cV (vErr (errI t))) ht)
      | exact updQ (jch h1) rfl)
  | (have h1:stB s 0 ERR=false:=by assumption
     have e1:tkK s 0 ERR=0:=cY h1
     have p1:PosIn s (tkK s 0 ERR):=hp.tk ERR
     first
      | exact ⟨_,_,_,_,p1,by decide,rfl⟩
      | (have h2:stB s 0 RNG=true:=(congrArg (fun z=>stB s z RNG) e1).symm.trans (by assumption)
         have hP:(tkK s (tkK s 0 ERR) RNG)=6:=(congrArg (fun z=>tkK s z RNG) e1).trans (uQ h2)
         have p2:PosIn s (tkK s (tkK s 0 ERR) RNG):=p1.tk RNG
         have pa:=hN s (tkK s (tkK s 0 ERR) RNG) true p2
         have hW:=W_rng (num:=num) (va:=va) (vb:=vb) (vc:=vc) hP h1 h2
         first
          | exact ⟨_,_,_,p2,trivial,rfl⟩
          | exact ⟨_,_,_,_,pa,by decide,rfl⟩
          | exact ⟨_,_,_,pa.tk COMMA,trivial,rfl⟩
          | exact ⟨_,_,_,pa,trivial,rfl⟩
          | exact ⟨_,_,_,_,hN _ _ _ (pa.tk COMMA),by decide,rfl⟩
          | exact ⟨_,_,_,_,hN _ _ _ pa,by decide,rfl⟩
          | (have hc:=wL (s:=s) (a:=num s (tkK s (tkK s 0 ERR) RNG) true) (g:=num s) (by assumption)
             first
              | exact sw ((congrArg (fun r:Rd3=>r.1) hW).trans (congrArg (fun c:Rd3=>vStr (iAt (num s (tkK s (tkK s 0 ERR) RNG) true).1 1) (iAt c.1 1)) hc.symm)) rfl
              | exact updQ hW (qa hc (by assumption))
              | exact updQ hW (qb hc (by assumption)))
          | (have hc:=wM (s:=s) (a:=num s (tkK s (tkK s 0 ERR) RNG) true) (g:=num s) (by assumption)
             first
              | exact sw ((congrArg (fun r:Rd3=>r.1) hW).trans (congrArg (fun c:Rd3=>vStr (iAt (num s (tkK s (tkK s 0 ERR) RNG) true).1 1) (iAt c.1 1)) hc.symm)) rfl
              | exact updQ hW (qa hc (by assumption))
              | exact updQ hW (qb hc (by assumption))))
      | (have h2:stB s 0 RNG=false:=(congrArg (fun z=>stB s z RNG) e1).symm.trans (by assumption)
         have e2:(tkK s (tkK s 0 ERR) RNG)=0:=(congrArg (fun z=>tkK s z RNG) e1).trans (cY h2)
         have p2:PosIn s (tkK s (tkK s 0 ERR) RNG):=p1.tk RNG
         first
          | exact ⟨_,_,_,_,p2,by decide,rfl⟩
          | (have h3:stB s 0 TBO=false:=(congrArg (fun z=>stB s z TBO) e2).symm.trans (by assumption)
             have e3:(tkK s (tkK s (tkK s 0 ERR) RNG) TBO)=0:=(congrArg (fun z=>tkK s z TBO) e2).trans (cY h3)
             have hW:=W_val (num:=num) (va:=va) (vb:=vb) (vc:=vc) e3 h1 h2 h3
             first
              | exact ⟨_,_,_,_,p2.tk TBO,.inr (.inr rfl),rfl⟩
              | exact sw (congrArg (fun r:Rd3=>r.1) hW) rfl
              | exact updQ hW rfl)
          | (have h3:stB s 0 TBO=true:=(congrArg (fun z=>stB s z TBO) e2).symm.trans (by assumption)
             have hP:(tkK s (tkK s (tkK s 0 ERR) RNG) TBO)=6:=(congrArg (fun z=>tkK s z TBO) e2).trans (uQ h3)
             have p3:PosIn s (tkK s (tkK s (tkK s 0 ERR) RNG) TBO):=p2.tk TBO
             have pa:=hA s (tkK s (tkK s (tkK s 0 ERR) RNG) TBO) true p3
             have wa:=wA s (tkK s (tkK s (tkK s 0 ERR) RNG) TBO) true p3
             first
              | exact ⟨_,_,_,_,p3,.inl rfl,rfl⟩
              | exact ⟨_,_,_,_,pa,by decide,rfl⟩
              | exact ⟨_,_,_,_,pa.tk COMMA,.inr (.inl rfl),rfl⟩
              | exact ⟨_,_,_,_,pa,.inr (.inl rfl),rfl⟩
              | exact ⟨_,_,_,_,hB _ _ _ (pa.tk COMMA),by decide,rfl⟩
              | exact ⟨_,_,_,_,hB _ _ _ pa,by decide,rfl⟩
              | (refine ⟨_,?_,rfl⟩
                 exact hT s (tkK s (tkK s (tkK s 0 ERR) RNG) TBO) true p3))))
  | skip
 all_goals (
  have h1:stB s 0 ERR=false:=by assumption
  have e1:tkK s 0 ERR=0:=cY h1
  have h2:stB s 0 RNG=false:=(congrArg (fun z=>stB s z RNG) e1).symm.trans (by assumption)
  have e2:(tkK s (tkK s 0 ERR) RNG)=0:=(congrArg (fun z=>tkK s z RNG) e1).trans (cY h2)
  have h3:stB s 0 TBO=true:=(congrArg (fun z=>stB s z TBO) e2).symm.trans (by assumption)
  have hP:(tkK s (tkK s (tkK s 0 ERR) RNG) TBO)=6:=(congrArg (fun z=>tkK s z TBO) e2).trans (uQ h3)
  have p3:PosIn s (tkK s (tkK s (tkK s 0 ERR) RNG) TBO):=((hp.tk ERR).tk RNG).tk TBO
  have hW:=jcg (num:=num) (va:=va) (vb:=vb) (vc:=vc) hP h1 h2 h3
  have pa:=hA s (tkK s (tkK s (tkK s 0 ERR) RNG) TBO) true p3
  have wv0:=wB s (andK s (va s (tkK s (tkK s (tkK s 0 ERR) RNG) TBO) true).2.1 (va s (tkK s (tkK s (tkK s 0 ERR) RNG) TBO) true).2.2 COMMA) (andB s (va s (tkK s (tkK s (tkK s 0 ERR) RNG) TBO) true).2.1 (va s (tkK s (tkK s (tkK s 0 ERR) RNG) TBO) true).2.2 COMMA) (pa.andK _ _)
  have wv1:WfRow T cV (seqR s (va s (tkK s (tkK s (tkK s 0 ERR) RNG) TBO) true) (vb s)).1:=wv0.1
  have wt1:wRow (seqR s (va s (tkK s (tkK s (tkK s 0 ERR) RNG) TBO) true) (vb s)).1≤4194304:=wv0.2
  have wrows:=(cu (seqR s (va s (tkK s (tkK s (tkK s 0 ERR) RNG) TBO) true) (vb s)).1 4)
  have hl:(lst (seqR s (va s (tkK s (tkK s (tkK s 0 ERR) RNG) TBO) true) (vb s)).1).length≤4194304:=by unfold lst;omega
  have hwl:aN (lst (seqR s (va s (tkK s (tkK s (tkK s 0 ERR) RNG) TBO) true) (vb s)).1)≤4194304:=by unfold lst;omega
  have hl' : (lst (seqR s (va s (tkK s (tkK s (tkK s 0 ERR) RNG) TBO) true) (vb s)).1).length≤maxLen:=jcr hl (by decide)
  refine am (Q:=_) [0,2,8,105,106,107] [137,2,8] (fun m st=>∃ i:Nat,st=([.ptr 137 0 0,.ptr 2 1 0,.ptr 8 1 0,argS 57 (lst (seqR s (va s (tkK s (tkK s (tkK s 0 ERR) RNG) TBO) true) (vb s)).1),.val false [.i .i64 ((lst (seqR s (va s (tkK s (tkK s (tkK s 0 ERR) RNG) TBO) true) (vb s)).1)).length],iArg (i:Int)],[(0,[.val false [.s s],.val false [.i .i64 (endR s (vTbl (ac (ah ((va s (tkK s (tkK s (tkK s 0 ERR) RNG) TBO) true).1.getD 3 default).str)) ((lst (seqR s (va s (tkK s (tkK s (tkK s 0 ERR) RNG) TBO) true) (vb s)).1).map aH)) (seqR s (va s (tkK s (tkK s (tkK s 0 ERR) RNG) TBO) true) (vb s))).2.1],.val false [.b (endR s (vTbl (ac (ah ((va s (tkK s (tkK s (tkK s 0 ERR) RNG) TBO) true).1.getD 3 default).str)) ((lst (seqR s (va s (tkK s (tkK s (tkK s 0 ERR) RNG) TBO) true) (vb s)).1).map aH)) (seqR s (va s (tkK s (tkK s (tkK s 0 ERR) RNG) TBO) true) (vb s))).2.2]]),(1,[.val false [.i .i64 0],.val false [.i .i64 0],.val false [.i .i64 0],.val false [.s ByteArray.empty],.val false [.sl true 57 []],.val false [.sl true 9 []],.val false [.sl true 101 []]]),(1,[.val false [.i .i64 5],.val false [.i .i64 0],.val false [.i .i64 0],.val false [.s ByteArray.empty],.val false [.sl true 57 []],.val false [.sl false 9 (ac (ah ((va s (tkK s (tkK s (tkK s 0 ERR) RNG) TBO) true).1.getD 3 default).str))],.val false [.sl true 101 (((lst (seqR s (va s (tkK s (tkK s (tkK s 0 ERR) RNG) TBO) true) (vb s)).1).take i).map aH)]])])∧i≤(lst (seqR s (va s (tkK s (tkK s (tkK s 0 ERR) RNG) TBO) true) (vb s)).1).length∧m=(lst (seqR s (va s (tkK s (tkK s (tkK s 0 ERR) RNG) TBO) true) (vb s)).1).length - i) ?_ ?_
  · refine ⟨rfl,(lst (seqR s (va s (tkK s (tkK s (tkK s 0 ERR) RNG) TBO) true) (vb s)).1).length,0,?_,jcl _,rfl⟩
    first
     | (have hc:=wL (s:=s) (a:=va s (tkK s (tkK s (tkK s 0 ERR) RNG) TBO) true) (g:=vb s) (by assumption)
        first
         | exact lG (f:=fun L K B=>(([.ptr 137 0 0,.ptr 2 1 0,.ptr 8 1 0,argS 57 L,.val false [.i .i64 (L).length],iArg 0],[(0,[.val false [.s s],.val false [.i .i64 K],.val false [.b B]]),(1,[.val false [.i .i64 0],.val false [.i .i64 0],.val false [.i .i64 0],.val false [.s ByteArray.empty],.val false [.sl true 57 []],.val false [.sl true 9 []],.val false [.sl true 101 []]]),(1,[.val false [.i .i64 5],.val false [.i .i64 0],.val false [.i .i64 0],.val false [.s ByteArray.empty],.val false [.sl true 57 []],.val false [.sl false 9 (ac (ah ((va s (tkK s (tkK s (tkK s 0 ERR) RNG) TBO) true).1.getD 3 default).str))],.val false [.sl true 101 []]])]):Snap)) (congrArg (fun r:Rd3=>lst r.1) hc) (qa (v:=(vTbl (ac (ah ((va s (tkK s (tkK s (tkK s 0 ERR) RNG) TBO) true).1.getD 3 default).str)) ((lst (seqR s (va s (tkK s (tkK s (tkK s 0 ERR) RNG) TBO) true) (vb s)).1).map aH))) hc (by assumption))
         | exact lG (f:=fun L K B=>(([.ptr 137 0 0,.ptr 2 1 0,.ptr 8 1 0,argS 57 L,.val false [.i .i64 (L).length],iArg 0],[(0,[.val false [.s s],.val false [.i .i64 K],.val false [.b B]]),(1,[.val false [.i .i64 0],.val false [.i .i64 0],.val false [.i .i64 0],.val false [.s ByteArray.empty],.val false [.sl true 57 []],.val false [.sl true 9 []],.val false [.sl true 101 []]]),(1,[.val false [.i .i64 5],.val false [.i .i64 0],.val false [.i .i64 0],.val false [.s ByteArray.empty],.val false [.sl true 57 []],.val false [.sl false 9 (ac (ah ((va s (tkK s (tkK s (tkK s 0 ERR) RNG) TBO) true).1.getD 3 default).str))],.val false [.sl true 101 []]])]):Snap)) (congrArg (fun r:Rd3=>lst r.1) hc) (qb (v:=(vTbl (ac (ah ((va s (tkK s (tkK s (tkK s 0 ERR) RNG) TBO) true).1.getD 3 default).str)) ((lst (seqR s (va s (tkK s (tkK s (tkK s 0 ERR) RNG) TBO) true) (vb s)).1).map aH))) hc (by assumption)))
     | (have hc:=wM (s:=s) (a:=va s (tkK s (tkK s (tkK s 0 ERR) RNG) TBO) true) (g:=vb s) (by assumption)
        first
         | exact lG (f:=fun L K B=>(([.ptr 137 0 0,.ptr 2 1 0,.ptr 8 1 0,argS 57 L,.val false [.i .i64 (L).length],iArg 0],[(0,[.val false [.s s],.val false [.i .i64 K],.val false [.b B]]),(1,[.val false [.i .i64 0],.val false [.i .i64 0],.val false [.i .i64 0],.val false [.s ByteArray.empty],.val false [.sl true 57 []],.val false [.sl true 9 []],.val false [.sl true 101 []]]),(1,[.val false [.i .i64 5],.val false [.i .i64 0],.val false [.i .i64 0],.val false [.s ByteArray.empty],.val false [.sl true 57 []],.val false [.sl false 9 (ac (ah ((va s (tkK s (tkK s (tkK s 0 ERR) RNG) TBO) true).1.getD 3 default).str))],.val false [.sl true 101 []]])]):Snap)) (congrArg (fun r:Rd3=>lst r.1) hc) (qa (v:=(vTbl (ac (ah ((va s (tkK s (tkK s (tkK s 0 ERR) RNG) TBO) true).1.getD 3 default).str)) ((lst (seqR s (va s (tkK s (tkK s (tkK s 0 ERR) RNG) TBO) true) (vb s)).1).map aH))) hc (by assumption))
         | exact lG (f:=fun L K B=>(([.ptr 137 0 0,.ptr 2 1 0,.ptr 8 1 0,argS 57 L,.val false [.i .i64 (L).length],iArg 0],[(0,[.val false [.s s],.val false [.i .i64 K],.val false [.b B]]),(1,[.val false [.i .i64 0],.val false [.i .i64 0],.val false [.i .i64 0],.val false [.s ByteArray.empty],.val false [.sl true 57 []],.val false [.sl true 9 []],.val false [.sl true 101 []]]),(1,[.val false [.i .i64 5],.val false [.i .i64 0],.val false [.i .i64 0],.val false [.s ByteArray.empty],.val false [.sl true 57 []],.val false [.sl false 9 (ac (ah ((va s (tkK s (tkK s (tkK s 0 ERR) RNG) TBO) true).1.getD 3 default).str))],.val false [.sl true 101 []]])]):Snap)) (congrArg (fun r:Rd3=>lst r.1) hc) (qb (v:=(vTbl (ac (ah ((va s (tkK s (tkK s (tkK s 0 ERR) RNG) TBO) true).1.getD 3 default).str)) ((lst (seqR s (va s (tkK s (tkK s (tkK s 0 ERR) RNG) TBO) true) (vb s)).1).map aH))) hc (by assumption)))
  rintro m st ⟨i,rfl,hle,rfl⟩
  repeat' first
   | (refine And.intro ?_ ?_)
   | (intro h;simp only [reduceCtorEq] at h;done)
   | (intro h;rw [h])
   | (intro h)
  all_goals first
   | exact True.intro
   | exact Or.inr rfl
   | with_reducible exact jcy _
   | (have hi:¬ i < (lst (seqR s (va s (tkK s (tkK s (tkK s 0 ERR) RNG) TBO) true) (vb s)).1).length:=nltN (by assumption)
      first
       | (refine sw (congrArg (fun r:Rd3=>r.1) hW) ?_
          show _=rowC cV (vTbl _ ((lst (seqR s (va s (tkK s (tkK s (tkK s 0 ERR) RNG) TBO) true) (vb s)).1).map aH))
          rw [cz hi]
          rfl)
       | exact updQ hW rfl)
   | (have hi:i < (lst (seqR s (va s (tkK s (tkK s (tkK s 0 ERR) RNG) TBO) true) (vb s)).1).length:=ltN (by assumption)
      first
       | (show (i:Int) < (((lst (seqR s (va s (tkK s (tkK s (tkK s 0 ERR) RNG) TBO) true) (vb s)).1)).length:Int);omega))
   | skip
  have hi:i < (lst (seqR s (va s (tkK s (tkK s (tkK s 0 ERR) RNG) TBO) true) (vb s)).1).length:=ltN (by assumption)
  have wv:WfRow T cV (rAt (lst (seqR s (va s (tkK s (tkK s (tkK s 0 ERR) RNG) TBO) true) (vb s)).1) i):=rm wv1 (by
   show (lst (seqR s (va s (tkK s (tkK s (tkK s 0 ERR) RNG) TBO) true) (vb s)).1).getD i [] ∈ (lst (seqR s (va s (tkK s (tkK s (tkK s 0 ERR) RNG) TBO) true) (vb s)).1)
   rw [jcp,jcj hi]
   exact jdK hi)
  have wvl:(lst (rAt (lst (seqR s (va s (tkK s (tkK s (tkK s 0 ERR) RNG) TBO) true) (vb s)).1) i)).length≤4194304:=by
   have h1:=gW hi
   have h2:=cu (rAt (lst (seqR s (va s (tkK s (tkK s (tkK s 0 ERR) RNG) TBO) true) (vb s)).1) i) 4
   have h3:wRow (rAt (lst (seqR s (va s (tkK s (tkK s (tkK s 0 ERR) RNG) TBO) true) (vb s)).1) i)≤aN (lst (seqR s (va s (tkK s (tkK s (tkK s 0 ERR) RNG) TBO) true) (vb s)).1):=h1
   show ((rAt (lst (seqR s (va s (tkK s (tkK s (tkK s 0 ERR) RNG) TBO) true) (vb s)).1) i).getD 4 default).rows.length≤_
   omega
  have wl' : (lst (rAt (lst (seqR s (va s (tkK s (tkK s (tkK s 0 ERR) RNG) TBO) true) (vb s)).1) i)).length≤maxLen:=jcr wvl (by decide)
  refine am (Q:=_) [0,2,8,105,106,107,11,113,114,115] [137,2,8,11] (fun m st=>∃ k' : Nat,st=([.ptr 137 0 0,.ptr 2 1 0,.ptr 8 1 0,argS 57 (lst (seqR s (va s (tkK s (tkK s (tkK s 0 ERR) RNG) TBO) true) (vb s)).1),.val false [.i .i64 ((lst (seqR s (va s (tkK s (tkK s (tkK s 0 ERR) RNG) TBO) true) (vb s)).1)).length],iArg (i:Int),.ptr 11 1 0,argS 57 (lst (rAt (lst (seqR s (va s (tkK s (tkK s (tkK s 0 ERR) RNG) TBO) true) (vb s)).1) i)),.val false [.i .i64 ((lst (rAt (lst (seqR s (va s (tkK s (tkK s (tkK s 0 ERR) RNG) TBO) true) (vb s)).1) i))).length],iArg (k' : Int)],[(0,[.val false [.s s],.val false [.i .i64 (endR s (vTbl (ac (ah ((va s (tkK s (tkK s (tkK s 0 ERR) RNG) TBO) true).1.getD 3 default).str)) ((lst (seqR s (va s (tkK s (tkK s (tkK s 0 ERR) RNG) TBO) true) (vb s)).1).map aH)) (seqR s (va s (tkK s (tkK s (tkK s 0 ERR) RNG) TBO) true) (vb s))).2.1],.val false [.b (endR s (vTbl (ac (ah ((va s (tkK s (tkK s (tkK s 0 ERR) RNG) TBO) true).1.getD 3 default).str)) ((lst (seqR s (va s (tkK s (tkK s (tkK s 0 ERR) RNG) TBO) true) (vb s)).1).map aH)) (seqR s (va s (tkK s (tkK s (tkK s 0 ERR) RNG) TBO) true) (vb s))).2.2]]),(1,[.val false [.i .i64 0],.val false [.i .i64 0],.val false [.i .i64 0],.val false [.s ByteArray.empty],.val false [.sl true 57 []],.val false [.sl true 9 []],.val false [.sl true 101 []]]),(1,[.val false [.i .i64 5],.val false [.i .i64 0],.val false [.i .i64 0],.val false [.s ByteArray.empty],.val false [.sl true 57 []],.val false [.sl false 9 (ac (ah ((va s (tkK s (tkK s (tkK s 0 ERR) RNG) TBO) true).1.getD 3 default).str))],.val false [.sl true 101 (((lst (seqR s (va s (tkK s (tkK s (tkK s 0 ERR) RNG) TBO) true) (vb s)).1).take i).map aH)]]),(1,[.val false [.sl true 3 (((lst (rAt (lst (seqR s (va s (tkK s (tkK s (tkK s 0 ERR) RNG) TBO) true) (vb s)).1) i)).take k').map fun y=>[D.i (iAt y 1)])],.val false [.sl true 126 []]])])∧k' ≤ (lst (rAt (lst (seqR s (va s (tkK s (tkK s (tkK s 0 ERR) RNG) TBO) true) (vb s)).1) i)).length∧m=(lst (rAt (lst (seqR s (va s (tkK s (tkK s (tkK s 0 ERR) RNG) TBO) true) (vb s)).1) i)).length - k') ?_ ?_
  · exact ⟨rfl,(lst (rAt (lst (seqR s (va s (tkK s (tkK s (tkK s 0 ERR) RNG) TBO) true) (vb s)).1) i)).length,0,rfl,jcl _,rfl⟩
  rintro m st ⟨k',rfl,kle,rfl⟩
  repeat' first
   | (refine And.intro ?_ ?_)
   | (intro h;simp only [reduceCtorEq] at h;done)
   | (intro h;rw [h])
   | (intro h)
  all_goals first
   | with_reducible exact jcy _
   | (have hk:k' < (lst (rAt (lst (seqR s (va s (tkK s (tkK s (tkK s 0 ERR) RNG) TBO) true) (vb s)).1) i)).length:=ltN (by assumption)
      first
       | (show (k' : Int) < (((lst (rAt (lst (seqR s (va s (tkK s (tkK s (tkK s 0 ERR) RNG) TBO) true) (vb s)).1) i))).length:Int);omega)
       | (show (((lst (rAt (lst (seqR s (va s (tkK s (tkK s (tkK s 0 ERR) RNG) TBO) true) (vb s)).1) i)).take k').map _).length+1≤maxLen;rw [jcw,jcD];omega)
       | (show ((((lst (rAt (lst (seqR s (va s (tkK s (tkK s (tkK s 0 ERR) RNG) TBO) true) (vb s)).1) i)).take k').map _).length+1) * 8≤_;rw [jcw,jcD];omega)
       | (show aV _ _;exact rfl)
       | (refine ⟨(lst (rAt (lst (seqR s (va s (tkK s (tkK s (tkK s 0 ERR) RNG) TBO) true) (vb s)).1) i)).length - (k' + 1),by omega,k' + 1,?_,by omega,rfl⟩
          exact ef (f:=fun r z=>(([.ptr 137 0 0,.ptr 2 1 0,.ptr 8 1 0,argS 57 (lst (seqR s (va s (tkK s (tkK s (tkK s 0 ERR) RNG) TBO) true) (vb s)).1),.val false [.i .i64 ((lst (seqR s (va s (tkK s (tkK s (tkK s 0 ERR) RNG) TBO) true) (vb s)).1)).length],iArg (i:Int),.ptr 11 1 0,argS 57 (lst (rAt (lst (seqR s (va s (tkK s (tkK s (tkK s 0 ERR) RNG) TBO) true) (vb s)).1) i)),.val false [.i .i64 ((lst (rAt (lst (seqR s (va s (tkK s (tkK s (tkK s 0 ERR) RNG) TBO) true) (vb s)).1) i))).length],iArg z],[(0,[.val false [.s s],.val false [.i .i64 (endR s (vTbl (ac (ah ((va s (tkK s (tkK s (tkK s 0 ERR) RNG) TBO) true).1.getD 3 default).str)) ((lst (seqR s (va s (tkK s (tkK s (tkK s 0 ERR) RNG) TBO) true) (vb s)).1).map aH)) (seqR s (va s (tkK s (tkK s (tkK s 0 ERR) RNG) TBO) true) (vb s))).2.1],.val false [.b (endR s (vTbl (ac (ah ((va s (tkK s (tkK s (tkK s 0 ERR) RNG) TBO) true).1.getD 3 default).str)) ((lst (seqR s (va s (tkK s (tkK s (tkK s 0 ERR) RNG) TBO) true) (vb s)).1).map aH)) (seqR s (va s (tkK s (tkK s (tkK s 0 ERR) RNG) TBO) true) (vb s))).2.2]]),(1,[.val false [.i .i64 0],.val false [.i .i64 0],.val false [.i .i64 0],.val false [.s ByteArray.empty],.val false [.sl true 57 []],.val false [.sl true 9 []],.val false [.sl true 101 []]]),(1,[.val false [.i .i64 5],.val false [.i .i64 0],.val false [.i .i64 0],.val false [.s ByteArray.empty],.val false [.sl true 57 []],.val false [.sl false 9 (ac (ah ((va s (tkK s (tkK s (tkK s 0 ERR) RNG) TBO) true).1.getD 3 default).str))],.val false [.sl true 101 (((lst (seqR s (va s (tkK s (tkK s (tkK s 0 ERR) RNG) TBO) true) (vb s)).1).take i).map aH)]]),(1,[.val false [.sl true 3 r],.val false [.sl true 126 []]])]):Snap)) (eO (fun y=>[D.i (iAt y 1)]) hk) (wrapN hk wl')))
   | (have hk:¬ k' < (lst (rAt (lst (seqR s (va s (tkK s (tkK s (tkK s 0 ERR) RNG) TBO) true) (vb s)).1) i)).length:=nltN (by assumption)
      first
       | (show (((lst (seqR s (va s (tkK s (tkK s (tkK s 0 ERR) RNG) TBO) true) (vb s)).1).take i).map aH).length+1≤maxLen;rw [jcw,jcD];omega)
       | (show ((((lst (seqR s (va s (tkK s (tkK s (tkK s 0 ERR) RNG) TBO) true) (vb s)).1).take i).map aH).length+1) * 48≤_;rw [jcw,jcD];omega)
       | (show aV _ _;exact rfl)
       | (refine ⟨(lst (seqR s (va s (tkK s (tkK s (tkK s 0 ERR) RNG) TBO) true) (vb s)).1).length - (i+1),by omega,i+1,?_,by omega,rfl⟩
          refine ef (f:=fun r z=>(([.ptr 137 0 0,.ptr 2 1 0,.ptr 8 1 0,argS 57 (lst (seqR s (va s (tkK s (tkK s (tkK s 0 ERR) RNG) TBO) true) (vb s)).1),.val false [.i .i64 ((lst (seqR s (va s (tkK s (tkK s (tkK s 0 ERR) RNG) TBO) true) (vb s)).1)).length],iArg z],[(0,[.val false [.s s],.val false [.i .i64 (endR s (vTbl (ac (ah ((va s (tkK s (tkK s (tkK s 0 ERR) RNG) TBO) true).1.getD 3 default).str)) ((lst (seqR s (va s (tkK s (tkK s (tkK s 0 ERR) RNG) TBO) true) (vb s)).1).map aH)) (seqR s (va s (tkK s (tkK s (tkK s 0 ERR) RNG) TBO) true) (vb s))).2.1],.val false [.b (endR s (vTbl (ac (ah ((va s (tkK s (tkK s (tkK s 0 ERR) RNG) TBO) true).1.getD 3 default).str)) ((lst (seqR s (va s (tkK s (tkK s (tkK s 0 ERR) RNG) TBO) true) (vb s)).1).map aH)) (seqR s (va s (tkK s (tkK s (tkK s 0 ERR) RNG) TBO) true) (vb s))).2.2]]),(1,[.val false [.i .i64 0],.val false [.i .i64 0],.val false [.i .i64 0],.val false [.s ByteArray.empty],.val false [.sl true 57 []],.val false [.sl true 9 []],.val false [.sl true 101 []]]),(1,[.val false [.i .i64 5],.val false [.i .i64 0],.val false [.i .i64 0],.val false [.s ByteArray.empty],.val false [.sl true 57 []],.val false [.sl false 9 (ac (ah ((va s (tkK s (tkK s (tkK s 0 ERR) RNG) TBO) true).1.getD 3 default).str))],.val false [.sl true 101 r]])]):Snap)) ?_ (wrapN hi hl')
          refine jdQ ?_ (eO aH hi)
          rw [cz hk]
          rfl)))
end Go.Proofs.YtcllpknipmcolaaGreatDoor.Ab
