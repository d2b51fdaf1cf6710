/- A part. -/
import Derived.Test.YtdjfhmghebommaaGreatDoorDWv
import Derived.Test.YtdjfhmghebommaaGreatDoorDYy
namespace Go.Proofs.YtdjfhmghebommaaGreatDoor.Ab
open Go.RowKit
set_option linter.all false
set_option maxRecDepth 100000
set_option maxHeartbeats 2000000
theorem xd97:FOk Tryz.prog Td 97 sf:=FOk.on true xk97 (fun args h=>by obtain ⟨s,rfl⟩:=h;rfl) (fun hb=>by cases hb)
theorem dw54 (num:ByteArray→Int→Bool→Rd3) (va vb vc:ByteArray→Int→Bool→Rd3) (hN:∀ s k b,PosIn s k→PosIn s (num s k b).2.1) (hA:∀ s k b,PosIn s k→PosIn s (va s k b).2.1) (hB:∀ s k b,PosIn s k→PosIn s (vb s k b).2.1)
 (wA:∀ s k b,PosIn s k→WfRow T cV (va s k b).1∧wRow (va s k b).1≤4194304) (wB:∀ s k b,PosIn s k→WfRow T cV (vb s k b).1∧wRow (vb s k b).1≤4194304)
 (hT:∀ s k b,PosIn s k→((va s k b).1.getD 3 default).str.size≤1048576) (hnum:FOk Tryz.prog Td 98 (rU cV (fun _ _ _=>True) num)) (hval:FOk Tryz.prog Td 100 (ot cV va vb vc)):FOk Tryz.prog Td 54 (pF cV (gp num va vb vc)):=by
 refine fokB (env:=envL [(95,jV),(97,sf),(96,(pH cV vErr)),(98,(rU cV (fun _ _ _=>True) num)),(99,(vZ cV vStr)),(100,(ot cV va vb vc)),(23,(dT true))]) (N:=137) il (ay xd95 (ay xd97 (ay xd96 (ay hnum (ay xd99 (ay hval (ay os23 bU))))))) mixed Tryz.func54 rfl Tryz.call54 Tryz.ntmps54 ?_
 rintro cs args ⟨s,hz,he⟩ hwf
 simp only [jce,SV.tup.injEq,jci,true_and,and_true] at he
 obtain ⟨rfl,rfl⟩:=he
 have hp:PosIn s 0:=⟨hz,jcz _,jb2 _⟩
 refine ⟨by simp,?_⟩
 clear hwf
 rw [Tryz.results54]
 repeat' first
  | refine And.intro ?_ ?_
  | (intro h;simp only [reduceCtorEq] at h;done)
  | (intro h;rw [h])
  | intro h
 all_goals first
  | (show aa _=true;kernel_rfl)|(show am _ _=true;kernel_rfl)|exact True.intro|exact Or.inr rfl|exact Or.inl rfl
  | exact rfl
  | exact ⟨_,_,_,_,hp,by decide,rfl⟩
  | exact ⟨_,rfl⟩
  | exact ⟨_,_,rfl⟩
  | (have h1:stB s 0 ERR=true:=by assumption
     have hP:tkK s 0 ERR=6:=uK h1
     have hb:=bi h1
     have e6:(ERR.size:Int)=6:=rfl
     first
      | (show (0:Int)≤tkK s 0 ERR;rw [hP];decide)
      | (show tkK s 0 ERR≤(s.size:Int);rw [hP];omega)
      | exact jcz _
      | (refine sI (congrArg (fun r:Rd3=>r.1) (jbL h1)) ?_
         have ht:s.extract (tkK s 0 ERR).toNat (s.size:Int).toNat=s.extract 6 s.size:=by rw [hP];rfl
         exact congrArg (fun t=>rowO cV (vErr (errI t))) ht)
      | exact updQ (jbL h1) rfl)
  | (have h1:stB s 0 ERR=false:=by assumption
     have e1:tkK s 0 ERR=0:=bQ h1
     have p1:PosIn s (tkK s 0 ERR):=hp.tk ERR
     first
      | exact ⟨_,_,_,_,p1,by decide,rfl⟩
      | (have h2:stB s 0 RNG=true:=(congrArg (fun z=>stB s z RNG) e1).symm.trans (by assumption)
         have hP:(tkK s (tkK s 0 ERR) RNG)=6:=(congrArg (fun z=>tkK s z RNG) e1).trans (uK h2)
         have p2:PosIn s (tkK s (tkK s 0 ERR) RNG):=p1.tk RNG
         have pa:=hN s (tkK s (tkK s 0 ERR) RNG) true p2
         have hW:=W_rng (num:=num) (va:=va) (vb:=vb) (vc:=vc) hP h1 h2
         first
          | exact ⟨_,_,_,p2,trivial,rfl⟩
          | exact ⟨_,_,_,_,pa,by decide,rfl⟩
          | exact ⟨_,_,_,pa.tk COMMA,trivial,rfl⟩
          | exact ⟨_,_,_,pa,trivial,rfl⟩
          | exact ⟨_,_,_,_,hN _ _ _ (pa.tk COMMA),by decide,rfl⟩
          | exact ⟨_,_,_,_,hN _ _ _ pa,by decide,rfl⟩
          | (have hc:=wd (s:=s) (a:=num s (tkK s (tkK s 0 ERR) RNG) true) (g:=num s) (by assumption)
             first
              | exact sI ((congrArg (fun r:Rd3=>r.1) hW).trans (congrArg (fun c:Rd3=>vStr (iAt (num s (tkK s (tkK s 0 ERR) RNG) true).1 1) (iAt c.1 1)) hc.symm)) rfl
              | exact updQ hW (qf hc (by assumption))
              | exact updQ hW (qg hc (by assumption)))
          | (have hc:=wg (s:=s) (a:=num s (tkK s (tkK s 0 ERR) RNG) true) (g:=num s) (by assumption)
             first
              | exact sI ((congrArg (fun r:Rd3=>r.1) hW).trans (congrArg (fun c:Rd3=>vStr (iAt (num s (tkK s (tkK s 0 ERR) RNG) true).1 1) (iAt c.1 1)) hc.symm)) rfl
              | exact updQ hW (qf hc (by assumption))
              | exact updQ hW (qg hc (by assumption))))
      | (have h2:stB s 0 RNG=false:=(congrArg (fun z=>stB s z RNG) e1).symm.trans (by assumption)
         have e2:(tkK s (tkK s 0 ERR) RNG)=0:=(congrArg (fun z=>tkK s z RNG) e1).trans (bQ h2)
         have p2:PosIn s (tkK s (tkK s 0 ERR) RNG):=p1.tk RNG
         first
          | exact ⟨_,_,_,_,p2,by decide,rfl⟩
          | (have h3:stB s 0 TBO=false:=(congrArg (fun z=>stB s z TBO) e2).symm.trans (by assumption)
             have e3:(tkK s (tkK s (tkK s 0 ERR) RNG) TBO)=0:=(congrArg (fun z=>tkK s z TBO) e2).trans (bQ h3)
             have hW:=W_val (num:=num) (va:=va) (vb:=vb) (vc:=vc) e3 h1 h2 h3
             first
              | exact ⟨_,_,_,_,p2.tk TBO,.inr (.inr rfl),rfl⟩
              | exact sI (congrArg (fun r:Rd3=>r.1) hW) rfl
              | exact updQ hW rfl)
          | (have h3:stB s 0 TBO=true:=(congrArg (fun z=>stB s z TBO) e2).symm.trans (by assumption)
             have hP:(tkK s (tkK s (tkK s 0 ERR) RNG) TBO)=6:=(congrArg (fun z=>tkK s z TBO) e2).trans (uK h3)
             have p3:PosIn s (tkK s (tkK s (tkK s 0 ERR) RNG) TBO):=p2.tk TBO
             have pa:=hA s (tkK s (tkK s (tkK s 0 ERR) RNG) TBO) true p3
             have wa:=wA s (tkK s (tkK s (tkK s 0 ERR) RNG) TBO) true p3
             first
              | exact ⟨_,_,_,_,p3,.inl rfl,rfl⟩
              | exact ⟨_,_,_,_,pa,by decide,rfl⟩
              | exact ⟨_,_,_,_,pa.tk COMMA,.inr (.inl rfl),rfl⟩
              | exact ⟨_,_,_,_,pa,.inr (.inl rfl),rfl⟩
              | exact ⟨_,_,_,_,hB _ _ _ (pa.tk COMMA),by decide,rfl⟩
              | exact ⟨_,_,_,_,hB _ _ _ pa,by decide,rfl⟩
              | (refine ⟨_,?_,rfl⟩
                 exact hT s (tkK s (tkK s (tkK s 0 ERR) RNG) TBO) true p3))))
  | skip
 all_goals (
  have h1:stB s 0 ERR=false:=by assumption
  have e1:tkK s 0 ERR=0:=bQ h1
  have h2:stB s 0 RNG=false:=(congrArg (fun z=>stB s z RNG) e1).symm.trans (by assumption)
  have e2:(tkK s (tkK s 0 ERR) RNG)=0:=(congrArg (fun z=>tkK s z RNG) e1).trans (bQ h2)
  have h3:stB s 0 TBO=true:=(congrArg (fun z=>stB s z TBO) e2).symm.trans (by assumption)
  have hP:(tkK s (tkK s (tkK s 0 ERR) RNG) TBO)=6:=(congrArg (fun z=>tkK s z TBO) e2).trans (uK h3)
  have p3:PosIn s (tkK s (tkK s (tkK s 0 ERR) RNG) TBO):=((hp.tk ERR).tk RNG).tk TBO
  have hW:=jbK (num:=num) (va:=va) (vb:=vb) (vc:=vc) hP h1 h2 h3
  have pa:=hA s (tkK s (tkK s (tkK s 0 ERR) RNG) TBO) true p3
  have wv0:=wB s (andK s (va s (tkK s (tkK s (tkK s 0 ERR) RNG) TBO) true).2.1 (va s (tkK s (tkK s (tkK s 0 ERR) RNG) TBO) true).2.2 COMMA) (andB s (va s (tkK s (tkK s (tkK s 0 ERR) RNG) TBO) true).2.1 (va s (tkK s (tkK s (tkK s 0 ERR) RNG) TBO) true).2.2 COMMA) (pa.andK _ _)
  have wv1:WfRow T cV (seqR s (va s (tkK s (tkK s (tkK s 0 ERR) RNG) TBO) true) (vb s)).1:=wv0.1
  have wt1:wRow (seqR s (va s (tkK s (tkK s (tkK s 0 ERR) RNG) TBO) true) (vb s)).1≤4194304:=wv0.2
  have wrows:=(cT (seqR s (va s (tkK s (tkK s (tkK s 0 ERR) RNG) TBO) true) (vb s)).1 4)
  have hl:(lst (seqR s (va s (tkK s (tkK s (tkK s 0 ERR) RNG) TBO) true) (vb s)).1).length≤4194304:=by unfold lst;omega
  have hwl:aO (lst (seqR s (va s (tkK s (tkK s (tkK s 0 ERR) RNG) TBO) true) (vb s)).1)≤4194304:=by unfold lst;omega
  have hl' : (lst (seqR s (va s (tkK s (tkK s (tkK s 0 ERR) RNG) TBO) true) (vb s)).1).length≤maxLen:=jbV hl (by decide)
  refine ap (Q:=_) [0,2,8,105,106,107] [137,2,8] (fun m st=>∃ i:Nat,st=([.ptr 137 0 0,.ptr 2 1 0,.ptr 8 1 0,argS 53 (lst (seqR s (va s (tkK s (tkK s (tkK s 0 ERR) RNG) TBO) true) (vb s)).1),.val false [.i .i64 ((lst (seqR s (va s (tkK s (tkK s (tkK s 0 ERR) RNG) TBO) true) (vb s)).1)).length],iArg (i:Int)],[(0,[.val false [.s s],.val false [.i .i64 (endR s (vTbl (ae (aj ((va s (tkK s (tkK s (tkK s 0 ERR) RNG) TBO) true).1.getD 3 default).str)) ((lst (seqR s (va s (tkK s (tkK s (tkK s 0 ERR) RNG) TBO) true) (vb s)).1).map aD)) (seqR s (va s (tkK s (tkK s (tkK s 0 ERR) RNG) TBO) true) (vb s))).2.1],.val false [.b (endR s (vTbl (ae (aj ((va s (tkK s (tkK s (tkK s 0 ERR) RNG) TBO) true).1.getD 3 default).str)) ((lst (seqR s (va s (tkK s (tkK s (tkK s 0 ERR) RNG) TBO) true) (vb s)).1).map aD)) (seqR s (va s (tkK s (tkK s (tkK s 0 ERR) RNG) TBO) true) (vb s))).2.2]]),(1,[.val false [.i .i64 0],.val false [.i .i64 0],.val false [.i .i64 0],.val false [.s ByteArray.empty],.val false [.sl true 53 []],.val false [.sl true 9 []],.val false [.sl true 126 []]]),(1,[.val false [.i .i64 5],.val false [.i .i64 0],.val false [.i .i64 0],.val false [.s ByteArray.empty],.val false [.sl true 53 []],.val false [.sl true 9 (ae (aj ((va s (tkK s (tkK s (tkK s 0 ERR) RNG) TBO) true).1.getD 3 default).str))],.val false [.sl true 126 (((lst (seqR s (va s (tkK s (tkK s (tkK s 0 ERR) RNG) TBO) true) (vb s)).1).take i).map aD)]])])∧i≤(lst (seqR s (va s (tkK s (tkK s (tkK s 0 ERR) RNG) TBO) true) (vb s)).1).length∧m=(lst (seqR s (va s (tkK s (tkK s (tkK s 0 ERR) RNG) TBO) true) (vb s)).1).length - i) ?_ ?_
  · refine ⟨rfl,(lst (seqR s (va s (tkK s (tkK s (tkK s 0 ERR) RNG) TBO) true) (vb s)).1).length,0,?_,jbP _,rfl⟩
    first
     | (have hc:=wd (s:=s) (a:=va s (tkK s (tkK s (tkK s 0 ERR) RNG) TBO) true) (g:=vb s) (by assumption)
        first
         | exact lR (f:=fun L K B=>(([.ptr 137 0 0,.ptr 2 1 0,.ptr 8 1 0,argS 53 L,.val false [.i .i64 (L).length],iArg 0],[(0,[.val false [.s s],.val false [.i .i64 K],.val false [.b B]]),(1,[.val false [.i .i64 0],.val false [.i .i64 0],.val false [.i .i64 0],.val false [.s ByteArray.empty],.val false [.sl true 53 []],.val false [.sl true 9 []],.val false [.sl true 126 []]]),(1,[.val false [.i .i64 5],.val false [.i .i64 0],.val false [.i .i64 0],.val false [.s ByteArray.empty],.val false [.sl true 53 []],.val false [.sl true 9 (ae (aj ((va s (tkK s (tkK s (tkK s 0 ERR) RNG) TBO) true).1.getD 3 default).str))],.val false [.sl true 126 []]])]):Snap)) (congrArg (fun r:Rd3=>lst r.1) hc) (qf (v:=(vTbl (ae (aj ((va s (tkK s (tkK s (tkK s 0 ERR) RNG) TBO) true).1.getD 3 default).str)) ((lst (seqR s (va s (tkK s (tkK s (tkK s 0 ERR) RNG) TBO) true) (vb s)).1).map aD))) hc (by assumption))
         | exact lR (f:=fun L K B=>(([.ptr 137 0 0,.ptr 2 1 0,.ptr 8 1 0,argS 53 L,.val false [.i .i64 (L).length],iArg 0],[(0,[.val false [.s s],.val false [.i .i64 K],.val false [.b B]]),(1,[.val false [.i .i64 0],.val false [.i .i64 0],.val false [.i .i64 0],.val false [.s ByteArray.empty],.val false [.sl true 53 []],.val false [.sl true 9 []],.val false [.sl true 126 []]]),(1,[.val false [.i .i64 5],.val false [.i .i64 0],.val false [.i .i64 0],.val false [.s ByteArray.empty],.val false [.sl true 53 []],.val false [.sl true 9 (ae (aj ((va s (tkK s (tkK s (tkK s 0 ERR) RNG) TBO) true).1.getD 3 default).str))],.val false [.sl true 126 []]])]):Snap)) (congrArg (fun r:Rd3=>lst r.1) hc) (qg (v:=(vTbl (ae (aj ((va s (tkK s (tkK s (tkK s 0 ERR) RNG) TBO) true).1.getD 3 default).str)) ((lst (seqR s (va s (tkK s (tkK s (tkK s 0 ERR) RNG) TBO) true) (vb s)).1).map aD))) hc (by assumption)))
     | (have hc:=wg (s:=s) (a:=va s (tkK s (tkK s (tkK s 0 ERR) RNG) TBO) true) (g:=vb s) (by assumption)
        first
         | exact lR (f:=fun L K B=>(([.ptr 137 0 0,.ptr 2 1 0,.ptr 8 1 0,argS 53 L,.val false [.i .i64 (L).length],iArg 0],[(0,[.val false [.s s],.val false [.i .i64 K],.val false [.b B]]),(1,[.val false [.i .i64 0],.val false [.i .i64 0],.val false [.i .i64 0],.val false [.s ByteArray.empty],.val false [.sl true 53 []],.val false [.sl true 9 []],.val false [.sl true 126 []]]),(1,[.val false [.i .i64 5],.val false [.i .i64 0],.val false [.i .i64 0],.val false [.s ByteArray.empty],.val false [.sl true 53 []],.val false [.sl true 9 (ae (aj ((va s (tkK s (tkK s (tkK s 0 ERR) RNG) TBO) true).1.getD 3 default).str))],.val false [.sl true 126 []]])]):Snap)) (congrArg (fun r:Rd3=>lst r.1) hc) (qf (v:=(vTbl (ae (aj ((va s (tkK s (tkK s (tkK s 0 ERR) RNG) TBO) true).1.getD 3 default).str)) ((lst (seqR s (va s (tkK s (tkK s (tkK s 0 ERR) RNG) TBO) true) (vb s)).1).map aD))) hc (by assumption))
         | exact lR (f:=fun L K B=>(([.ptr 137 0 0,.ptr 2 1 0,.ptr 8 1 0,argS 53 L,.val false [.i .i64 (L).length],iArg 0],[(0,[.val false [.s s],.val false [.i .i64 K],.val false [.b B]]),(1,[.val false [.i .i64 0],.val false [.i .i64 0],.val false [.i .i64 0],.val false [.s ByteArray.empty],.val false [.sl true 53 []],.val false [.sl true 9 []],.val false [.sl true 126 []]]),(1,[.val false [.i .i64 5],.val false [.i .i64 0],.val false [.i .i64 0],.val false [.s ByteArray.empty],.val false [.sl true 53 []],.val false [.sl true 9 (ae (aj ((va s (tkK s (tkK s (tkK s 0 ERR) RNG) TBO) true).1.getD 3 default).str))],.val false [.sl true 126 []]])]):Snap)) (congrArg (fun r:Rd3=>lst r.1) hc) (qg (v:=(vTbl (ae (aj ((va s (tkK s (tkK s (tkK s 0 ERR) RNG) TBO) true).1.getD 3 default).str)) ((lst (seqR s (va s (tkK s (tkK s (tkK s 0 ERR) RNG) TBO) true) (vb s)).1).map aD))) hc (by assumption)))
  rintro m st ⟨i,rfl,hle,rfl⟩
  repeat' first
   | refine And.intro ?_ ?_
   | (intro h;simp only [reduceCtorEq] at h;done)
   | (intro h;rw [h])
   | intro h
  all_goals first
   | (show aa _=true;kernel_rfl)|(show am _ _=true;kernel_rfl)|exact True.intro|exact Or.inr rfl|exact Or.inl rfl
   | with_reducible exact jb2 _
   | (have hi:¬ i < (lst (seqR s (va s (tkK s (tkK s (tkK s 0 ERR) RNG) TBO) true) (vb s)).1).length:=nltN (by assumption)
      first
       | (refine sI (congrArg (fun r:Rd3=>r.1) hW) ?_
          show _=rowO cV (vTbl _ ((lst (seqR s (va s (tkK s (tkK s (tkK s 0 ERR) RNG) TBO) true) (vb s)).1).map aD))
          rw [cA hi]
          rfl)
       | exact updQ hW rfl)
   | (have hi:i < (lst (seqR s (va s (tkK s (tkK s (tkK s 0 ERR) RNG) TBO) true) (vb s)).1).length:=ltN (by assumption)
      first
       | (show (i:Int) < (((lst (seqR s (va s (tkK s (tkK s (tkK s 0 ERR) RNG) TBO) true) (vb s)).1)).length:Int);omega)
       | (show (Int.toNat (i:Int)) < _;rw [jca];exact hi))
   | skip
  have hi:i < (lst (seqR s (va s (tkK s (tkK s (tkK s 0 ERR) RNG) TBO) true) (vb s)).1).length:=ltN (by assumption)
  have wv:WfRow T cV (rAt (lst (seqR s (va s (tkK s (tkK s (tkK s 0 ERR) RNG) TBO) true) (vb s)).1) i):=mK wv1 (by
   show (lst (seqR s (va s (tkK s (tkK s (tkK s 0 ERR) RNG) TBO) true) (vb s)).1).getD i [] ∈ (lst (seqR s (va s (tkK s (tkK s (tkK s 0 ERR) RNG) TBO) true) (vb s)).1)
   rw [jbT,jbN hi]
   exact jde hi)
  have wvl:(lst (rAt (lst (seqR s (va s (tkK s (tkK s (tkK s 0 ERR) RNG) TBO) true) (vb s)).1) i)).length≤4194304:=by
   have h1:=nZ hi
   have h2:=cT (rAt (lst (seqR s (va s (tkK s (tkK s (tkK s 0 ERR) RNG) TBO) true) (vb s)).1) i) 4
   have h3:wRow (rAt (lst (seqR s (va s (tkK s (tkK s (tkK s 0 ERR) RNG) TBO) true) (vb s)).1) i)≤aO (lst (seqR s (va s (tkK s (tkK s (tkK s 0 ERR) RNG) TBO) true) (vb s)).1):=h1
   show ((rAt (lst (seqR s (va s (tkK s (tkK s (tkK s 0 ERR) RNG) TBO) true) (vb s)).1) i).getD 4 default).rows.length≤_
   omega
  have wl' : (lst (rAt (lst (seqR s (va s (tkK s (tkK s (tkK s 0 ERR) RNG) TBO) true) (vb s)).1) i)).length≤maxLen:=jbV wvl (by decide)
  refine ap (Q:=_) [0,2,8,105,106,107,11,113,114,115] [137,2,8,11] (fun m st=>∃ k' : Nat,st=([.ptr 137 0 0,.ptr 2 1 0,.ptr 8 1 0,argS 53 (lst (seqR s (va s (tkK s (tkK s (tkK s 0 ERR) RNG) TBO) true) (vb s)).1),.val false [.i .i64 ((lst (seqR s (va s (tkK s (tkK s (tkK s 0 ERR) RNG) TBO) true) (vb s)).1)).length],iArg (i:Int),.ptr 11 1 0,argS 53 (lst (rAt (lst (seqR s (va s (tkK s (tkK s (tkK s 0 ERR) RNG) TBO) true) (vb s)).1) i)),.val false [.i .i64 ((lst (rAt (lst (seqR s (va s (tkK s (tkK s (tkK s 0 ERR) RNG) TBO) true) (vb s)).1) i))).length],iArg (k' : Int)],[(0,[.val false [.s s],.val false [.i .i64 (endR s (vTbl (ae (aj ((va s (tkK s (tkK s (tkK s 0 ERR) RNG) TBO) true).1.getD 3 default).str)) ((lst (seqR s (va s (tkK s (tkK s (tkK s 0 ERR) RNG) TBO) true) (vb s)).1).map aD)) (seqR s (va s (tkK s (tkK s (tkK s 0 ERR) RNG) TBO) true) (vb s))).2.1],.val false [.b (endR s (vTbl (ae (aj ((va s (tkK s (tkK s (tkK s 0 ERR) RNG) TBO) true).1.getD 3 default).str)) ((lst (seqR s (va s (tkK s (tkK s (tkK s 0 ERR) RNG) TBO) true) (vb s)).1).map aD)) (seqR s (va s (tkK s (tkK s (tkK s 0 ERR) RNG) TBO) true) (vb s))).2.2]]),(1,[.val false [.i .i64 0],.val false [.i .i64 0],.val false [.i .i64 0],.val false [.s ByteArray.empty],.val false [.sl true 53 []],.val false [.sl true 9 []],.val false [.sl true 126 []]]),(1,[.val false [.i .i64 5],.val false [.i .i64 0],.val false [.i .i64 0],.val false [.s ByteArray.empty],.val false [.sl true 53 []],.val false [.sl true 9 (ae (aj ((va s (tkK s (tkK s (tkK s 0 ERR) RNG) TBO) true).1.getD 3 default).str))],.val false [.sl true 126 (((lst (seqR s (va s (tkK s (tkK s (tkK s 0 ERR) RNG) TBO) true) (vb s)).1).take i).map aD)]]),(1,[.val false [.sl true 3 (((lst (rAt (lst (seqR s (va s (tkK s (tkK s (tkK s 0 ERR) RNG) TBO) true) (vb s)).1) i)).take k').map fun y=>[D.i (iAt y 1)])],.val false [.sl true 147 []]])])∧k' ≤ (lst (rAt (lst (seqR s (va s (tkK s (tkK s (tkK s 0 ERR) RNG) TBO) true) (vb s)).1) i)).length∧m=(lst (rAt (lst (seqR s (va s (tkK s (tkK s (tkK s 0 ERR) RNG) TBO) true) (vb s)).1) i)).length - k') ?_ ?_
  · exact ⟨rfl,(lst (rAt (lst (seqR s (va s (tkK s (tkK s (tkK s 0 ERR) RNG) TBO) true) (vb s)).1) i)).length,0,rfl,jbP _,rfl⟩
  rintro m st ⟨k',rfl,kle,rfl⟩
  repeat' first
   | refine And.intro ?_ ?_
   | (intro h;simp only [reduceCtorEq] at h;done)
   | (intro h;rw [h])
   | intro h
  all_goals first
   | (show aa _=true;kernel_rfl)|(show am _ _=true;kernel_rfl)|exact True.intro|exact Or.inr rfl|exact Or.inl rfl
   | with_reducible exact jb2 _
   | (have hk:k' < (lst (rAt (lst (seqR s (va s (tkK s (tkK s (tkK s 0 ERR) RNG) TBO) true) (vb s)).1) i)).length:=ltN (by assumption)
      first
       | (show (k' : Int) < (((lst (rAt (lst (seqR s (va s (tkK s (tkK s (tkK s 0 ERR) RNG) TBO) true) (vb s)).1) i))).length:Int);omega)
       | (show (Int.toNat (k' : Int)) < _;rw [jca];exact hk)
       | exact mL (mK wv (by show (lst (rAt (lst (seqR s (va s (tkK s (tkK s (tkK s 0 ERR) RNG) TBO) true) (vb s)).1) i)).getD k' [] ∈ _;rw [jbT,jbN hk];exact jde hk))
       | (show (((lst (rAt (lst (seqR s (va s (tkK s (tkK s (tkK s 0 ERR) RNG) TBO) true) (vb s)).1) i)).take k').map _).length+1≤maxLen;rw [jb0,jb7];omega)
       | (show ((((lst (rAt (lst (seqR s (va s (tkK s (tkK s (tkK s 0 ERR) RNG) TBO) true) (vb s)).1) i)).take k').map _).length+1) * 8≤_;rw [jb0,jb7];omega)
       | (show aT _ _;exact rfl)
       | (refine ⟨(lst (rAt (lst (seqR s (va s (tkK s (tkK s (tkK s 0 ERR) RNG) TBO) true) (vb s)).1) i)).length - (k' + 1),by omega,k' + 1,?_,by omega,rfl⟩
          exact eA (f:=fun r z=>(([.ptr 137 0 0,.ptr 2 1 0,.ptr 8 1 0,argS 53 (lst (seqR s (va s (tkK s (tkK s (tkK s 0 ERR) RNG) TBO) true) (vb s)).1),.val false [.i .i64 ((lst (seqR s (va s (tkK s (tkK s (tkK s 0 ERR) RNG) TBO) true) (vb s)).1)).length],iArg (i:Int),.ptr 11 1 0,argS 53 (lst (rAt (lst (seqR s (va s (tkK s (tkK s (tkK s 0 ERR) RNG) TBO) true) (vb s)).1) i)),.val false [.i .i64 ((lst (rAt (lst (seqR s (va s (tkK s (tkK s (tkK s 0 ERR) RNG) TBO) true) (vb s)).1) i))).length],iArg z],[(0,[.val false [.s s],.val false [.i .i64 (endR s (vTbl (ae (aj ((va s (tkK s (tkK s (tkK s 0 ERR) RNG) TBO) true).1.getD 3 default).str)) ((lst (seqR s (va s (tkK s (tkK s (tkK s 0 ERR) RNG) TBO) true) (vb s)).1).map aD)) (seqR s (va s (tkK s (tkK s (tkK s 0 ERR) RNG) TBO) true) (vb s))).2.1],.val false [.b (endR s (vTbl (ae (aj ((va s (tkK s (tkK s (tkK s 0 ERR) RNG) TBO) true).1.getD 3 default).str)) ((lst (seqR s (va s (tkK s (tkK s (tkK s 0 ERR) RNG) TBO) true) (vb s)).1).map aD)) (seqR s (va s (tkK s (tkK s (tkK s 0 ERR) RNG) TBO) true) (vb s))).2.2]]),(1,[.val false [.i .i64 0],.val false [.i .i64 0],.val false [.i .i64 0],.val false [.s ByteArray.empty],.val false [.sl true 53 []],.val false [.sl true 9 []],.val false [.sl true 126 []]]),(1,[.val false [.i .i64 5],.val false [.i .i64 0],.val false [.i .i64 0],.val false [.s ByteArray.empty],.val false [.sl true 53 []],.val false [.sl true 9 (ae (aj ((va s (tkK s (tkK s (tkK s 0 ERR) RNG) TBO) true).1.getD 3 default).str))],.val false [.sl true 126 (((lst (seqR s (va s (tkK s (tkK s (tkK s 0 ERR) RNG) TBO) true) (vb s)).1).take i).map aD)]]),(1,[.val false [.sl true 3 r],.val false [.sl true 147 []]])]):Snap)) (eS (fun y=>[D.i (iAt y 1)]) hk) (wrapN hk wl')))
   | (have hk:¬ k' < (lst (rAt (lst (seqR s (va s (tkK s (tkK s (tkK s 0 ERR) RNG) TBO) true) (vb s)).1) i)).length:=nltN (by assumption)
      first
       | (show (((lst (seqR s (va s (tkK s (tkK s (tkK s 0 ERR) RNG) TBO) true) (vb s)).1).take i).map aD).length+1≤maxLen;rw [jb0,jb7];omega)
       | (show ((((lst (seqR s (va s (tkK s (tkK s (tkK s 0 ERR) RNG) TBO) true) (vb s)).1).take i).map aD).length+1) * 48≤_;rw [jb0,jb7];omega)
       | (show aT _ _;exact rfl)
       | (refine ⟨(lst (seqR s (va s (tkK s (tkK s (tkK s 0 ERR) RNG) TBO) true) (vb s)).1).length - (i+1),by omega,i+1,?_,by omega,rfl⟩
          refine eA (f:=fun r z=>(([.ptr 137 0 0,.ptr 2 1 0,.ptr 8 1 0,argS 53 (lst (seqR s (va s (tkK s (tkK s (tkK s 0 ERR) RNG) TBO) true) (vb s)).1),.val false [.i .i64 ((lst (seqR s (va s (tkK s (tkK s (tkK s 0 ERR) RNG) TBO) true) (vb s)).1)).length],iArg z],[(0,[.val false [.s s],.val false [.i .i64 (endR s (vTbl (ae (aj ((va s (tkK s (tkK s (tkK s 0 ERR) RNG) TBO) true).1.getD 3 default).str)) ((lst (seqR s (va s (tkK s (tkK s (tkK s 0 ERR) RNG) TBO) true) (vb s)).1).map aD)) (seqR s (va s (tkK s (tkK s (tkK s 0 ERR) RNG) TBO) true) (vb s))).2.1],.val false [.b (endR s (vTbl (ae (aj ((va s (tkK s (tkK s (tkK s 0 ERR) RNG) TBO) true).1.getD 3 default).str)) ((lst (seqR s (va s (tkK s (tkK s (tkK s 0 ERR) RNG) TBO) true) (vb s)).1).map aD)) (seqR s (va s (tkK s (tkK s (tkK s 0 ERR) RNG) TBO) true) (vb s))).2.2]]),(1,[.val false [.i .i64 0],.val false [.i .i64 0],.val false [.i .i64 0],.val false [.s ByteArray.empty],.val false [.sl true 53 []],.val false [.sl true 9 []],.val false [.sl true 126 []]]),(1,[.val false [.i .i64 5],.val false [.i .i64 0],.val false [.i .i64 0],.val false [.s ByteArray.empty],.val false [.sl true 53 []],.val false [.sl true 9 (ae (aj ((va s (tkK s (tkK s (tkK s 0 ERR) RNG) TBO) true).1.getD 3 default).str))],.val false [.sl true 126 r]])]):Snap)) ?_ (wrapN hi hl')
          refine jdk ?_ (eS aD hi)
          rw [cA hk]
          rfl))
   | skip)
theorem zj (d:Nat) (hd:d≤100):FOk Tryz.prog Td 100 (mR cV d (fun s k b=>valI s d k b)):=FOk.on true (ro d hd) (fun args h=>by obtain ⟨s,k,b,x,_,_,rfl⟩:=h;exact xR T _ _)
 (fun _ cs args h=>by
   obtain ⟨s,k,b,x,_,_,he⟩:=h
   simp only [jce,SV.tup.injEq,jci,true_and,and_true] at he
   obtain ⟨rfl,rfl⟩:=he
   exact ⟨rfl,rfl⟩)
theorem xd54:FOk Tryz.prog Td 54 (pF cV bN) :=
 dw54 aW (fun s k b=>valI s 0 k b) (fun s k b=>valI s 2 k b) (fun s k b=>valI s 3 k b) (fun s k b h=>jaQ h) (fun s k b h=>pr 0 h) (fun s k b h=>pr 2 h)
  (fun s k b h=>⟨jG h.1 0 (by decide) k b h.2.1 h.2.2,uF 0 (by decide) h⟩) (fun s k b h=>⟨jG h.1 2 (by decide) k b h.2.1 h.2.2,uF 2 (by decide) h⟩) (fun s k b h=>ry h) xd98
  (FOk.rd2O (zj 0 (by decide)) (zj 2 (by decide)) (uc 3 (by decide)))
theorem xd55:FOk Tryz.prog Td 55 { (spGT T cV SmM fmtO) with nr:=true }:=(FOk.on true xk55 (fun args h=>by obtain ⟨a,_,_,rfl⟩:=h;rfl) (fun hb=>by cases hb)).lends
theorem dv26 (n:Nat) (wh:ByteArray→Rd3) (hwf:∀ s,s.size≤1048576→WfRow T cV (wh s).1) (hwt:∀ s,s.size≤1048576→wRow (wh s).1≤WM) (hp:FOk Tryz.prog Td 54 (pF cV wh)):FOk Tryz.prog Td 26 (xK cV n (fun s=>pvOf (wh s).1 ((wh s).2.2 && (wh s).2.1 == (s.size:Int)) s)):=by
 refine fok (env:=envL [(54,(pF cV wh)),(55, { (spGT T cV SmM fmtO) with nr:=true })]) (N:=37) il (ay hp (ay xd55 bU)) mixed Tryz.func26 rfl Tryz.call26 Tryz.ntmps26 ?_
 rintro args ⟨s,hs,hn,rfl⟩ hwf'
 clear hwf'
 have w:=hwf s hs
 have wt:=hwt s hs
 have w7:csD (rowO cV (wh s).1)=(wh s).1:=qm w
 refine ⟨by simp,?_⟩
 rw [Tryz.results26]
 repeat' first
  | refine And.intro ?_ ?_
  | (intro h;simp only [reduceCtorEq] at h;done)
  | (intro h;rw [h])
  | intro h
 all_goals first
  | (show aa _=true;kernel_rfl)|(show am _ _=true;kernel_rfl)|exact True.intro|exact Or.inr rfl|exact Or.inl rfl
  | exact rfl
  | exact ⟨_,hs,rfl⟩
  | exact ⟨(wh s).1,w,wt,rfl⟩
  | (rw [jcF.1 h];exact True.intro)
  | exact gJ (pv_1 (by rw [aY (show (!(wh s).2.2)=true by assumption)];rfl)) rfl rfl
  | (have hok:(wh s).2.2=true:=aA (by assumption)
     first
      | exact gJ (pv_1 (by rw [hok,jbG (show ((wh s).2.1 != (s.size:Int))=true by assumption)];rfl)) rfl rfl
      | (have hat:((wh s).2.1 == (s.size:Int))=true:=jbH (by assumption)
         first
          | exact gJ (pv_3 (by assumption)) rfl rfl
          | (have hz:(!(fmtO (wh s).1).toList == s.toList)=true:=(by rw [← w7];assumption)
             exact gJ (pv_2 hz) rfl rfl)
          | (have hz:(!(fmtO (wh s).1).toList == s.toList)=false:=(by rw [← w7];assumption)
             exact gJ (pv_4 (by rw [hok,hat];rfl) hz (by assumption)) rfl rfl)))
  | skip
theorem xd26 (n:Nat):FOk Tryz.prog Td 26 (xK cV n pvI):=dv26 n bN (fun s hs=>uD hs) (fun s hs=>xm hs) xd54
end Go.Proofs.YtdjfhmghebommaaGreatDoor.Ab
