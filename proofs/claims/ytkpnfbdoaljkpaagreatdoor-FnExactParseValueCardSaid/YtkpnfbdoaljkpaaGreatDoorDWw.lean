/- The program's ParseValue, where what is read owns all that it leads to: printed by a -/
import Derived.Test.YtkpnfbdoaljkpaaGreatDoorDWv
import Derived.Test.YtkpnfbdoaljkpaaGreatDoorDMo
import Derived.Test.YtkpnfbdoaljkpaaGreatDoorDYy
namespace Go.Proofs.YtkpnfbdoaljkpaaGreatDoor.Ab
open Go.RowKit
set_option linter.unusedVariables false
set_option linter.unusedSimpArgs false
set_option maxRecDepth 100000
set_option maxHeartbeats 2000000
theorem xd108:FOk Tryz.prog Td 108 spErrI:=FOk.on true xk108 (fun args h=>by obtain ⟨s,rfl⟩:=h;rfl) (fun hb=>by cases hb)
theorem dw53 (num:ByteArray→Int→Bool→Rd3) (va vb vc:ByteArray→Int→Bool→Rd3) (hN:∀ s k b,PosIn s k→PosIn s (num s k b).2.1) (hA:∀ s k b,PosIn s k→PosIn s (va s k b).2.1) (hB:∀ s k b,PosIn s k→PosIn s (vb s k b).2.1)
    (wA:∀ s k b,PosIn s k→WfRow T cV (va s k b).1∧wRow (va s k b).1≤4194304) (wB:∀ s k b,PosIn s k→WfRow T cV (vb s k b).1∧wRow (vb s k b).1≤4194304)
    (hT:∀ s k b,PosIn s k→((va s k b).1.getD 3 default).str.size≤1048576) (hnum:FOk Tryz.prog Td 109 (spRdO [.i .i64,.i .i64,.i .i64,.s,.l 53,.l 9,.l 131] (fun _ _ _=>True) num)) (hval:FOk Tryz.prog Td 111 (spRdD2O [.i .i64,.i .i64,.i .i64,.s,.l 53,.l 9,.l 131] va vb vc)):FOk Tryz.prog Td 53 (spRdWO [.i .i64,.i .i64,.i .i64,.s,.l 53,.l 9,.l 131] (wholeG num va vb vc)):=by
  refine fokB (env:=envL [(106,spTake),(108,spErrI),(107,(spMk1O [.i .i64,.i .i64,.i .i64,.s,.l 53,.l 9,.l 131] vErr)),(109,(spRdO [.i .i64,.i .i64,.i .i64,.s,.l 53,.l 9,.l 131] (fun _ _ _=>True) num)),(110,(spMk2O [.i .i64,.i .i64,.i .i64,.s,.l 53,.l 9,.l 131] vStr)),(111,(spRdD2O [.i .i64,.i .i64,.i .i64,.s,.l 53,.l 9,.l 131] va vb vc)),(68,(spSplit true))]) (N:=137) tabTd (envD_cons xd106 (envD_cons xd108 (envD_cons xd107 (envD_cons hnum (envD_cons xd110 (envD_cons hval (envD_cons os68 envD_nil))))))) mixed Tryz.func53 rfl Tryz.call53 Tryz.ntmps53 ?_
  rintro cs args ⟨s,hz,he⟩ hwf
  simp only [List.cons.injEq,SV.tup.injEq,Prod.mk.injEq,true_and,and_true] at he
  obtain ⟨rfl,rfl⟩:=he
  have hp:PosIn s 0:=⟨hz,Int.le_refl _,Int.natCast_nonneg _⟩
  refine ⟨by simp,?_⟩
  clear hwf
  rw [Tryz.results53]
  repeat' first
    | (refine And.intro ?_ ?_)
    | (intro h;simp only [reduceCtorEq] at h;done)
    | (intro h;rw [h])
    | (intro h)
  all_goals first
    | (show lowEdges _=true;kernel_rfl)|(show logOk _ _=true;kernel_rfl)|exact True.intro|exact Or.inr rfl|exact Or.inl rfl
    | exact rfl
    | exact ⟨_,_,_,_,hp,by decide,rfl⟩
    | exact ⟨_,rfl⟩
    | exact ⟨_,_,rfl⟩
    | (have h1:stB s 0 ERR=true:=by assumption
       have hP:tkK s 0 ERR=6:=tk_at h1
       have hb:=stB_le h1
       have e6:(ERR.size:Int)=6:=rfl
       first
         | (show (0:Int)≤tkK s 0 ERR;rw [hP];decide)
         | (show tkK s 0 ERR≤(s.size:Int);rw [hP];omega)
         | exact Int.le_refl _
         | (refine resO1 (congrArg (fun r:Rd3=>r.1) (W_err h1)) ?_
            have ht:s.extract (tkK s 0 ERR).toNat (s.size:Int).toNat=s.extract 6 s.size:=by rw [hP];rfl
            exact congrArg (fun t=>rowO [.i .i64,.i .i64,.i .i64,.s,.l 53,.l 9,.l 131] (vErr (errI t))) ht)
         | exact updQ (W_err h1) rfl)
    | (have h1:stB s 0 ERR=false:=by assumption
       have e1:tkK s 0 ERR=0:=tk_none h1
       have p1:PosIn s (tkK s 0 ERR):=hp.tk ERR
       first
         | exact ⟨_,_,_,_,p1,by decide,rfl⟩
         | (have h2:stB s 0 RNG=true:=(congrArg (fun z=>stB s z RNG) e1).symm.trans (by assumption)
            have hP:(tkK s (tkK s 0 ERR) RNG)=6:=(congrArg (fun z=>tkK s z RNG) e1).trans (tk_at h2)
            have p2:PosIn s (tkK s (tkK s 0 ERR) RNG):=p1.tk RNG
            have pa:=hN s (tkK s (tkK s 0 ERR) RNG) true p2
            have hW:=W_rng (num:=num) (va:=va) (vb:=vb) (vc:=vc) hP h1 h2
            first
              | exact ⟨_,_,_,p2,trivial,rfl⟩
              | exact ⟨_,_,_,_,pa,by decide,rfl⟩
              | exact ⟨_,_,_,pa.tk COMMA,trivial,rfl⟩
              | exact ⟨_,_,_,pa,trivial,rfl⟩
              | exact ⟨_,_,_,_,hN _ _ _ (pa.tk COMMA),by decide,rfl⟩
              | exact ⟨_,_,_,_,hN _ _ _ pa,by decide,rfl⟩
              | (have hc:=seqR_T (s:=s) (a:=num s (tkK s (tkK s 0 ERR) RNG) true) (g:=num s) (by assumption)
                 first
                   | exact resO1 ((congrArg (fun r:Rd3=>r.1) hW).trans (congrArg (fun c:Rd3=>vStr (iAt (num s (tkK s (tkK s 0 ERR) RNG) true).1 1) (iAt c.1 1)) hc.symm)) rfl
                   | exact updQ hW (endR_T hc (by assumption))
                   | exact updQ hW (endR_F hc (by assumption)))
              | (have hc:=seqR_F (s:=s) (a:=num s (tkK s (tkK s 0 ERR) RNG) true) (g:=num s) (by assumption)
                 first
                   | exact resO1 ((congrArg (fun r:Rd3=>r.1) hW).trans (congrArg (fun c:Rd3=>vStr (iAt (num s (tkK s (tkK s 0 ERR) RNG) true).1 1) (iAt c.1 1)) hc.symm)) rfl
                   | exact updQ hW (endR_T hc (by assumption))
                   | exact updQ hW (endR_F hc (by assumption))))
         | (have h2:stB s 0 RNG=false:=(congrArg (fun z=>stB s z RNG) e1).symm.trans (by assumption)
            have e2:(tkK s (tkK s 0 ERR) RNG)=0:=(congrArg (fun z=>tkK s z RNG) e1).trans (tk_none h2)
            have p2:PosIn s (tkK s (tkK s 0 ERR) RNG):=p1.tk RNG
            first
              | exact ⟨_,_,_,_,p2,by decide,rfl⟩
              | (have h3:stB s 0 TBO=false:=(congrArg (fun z=>stB s z TBO) e2).symm.trans (by assumption)
                 have e3:(tkK s (tkK s (tkK s 0 ERR) RNG) TBO)=0:=(congrArg (fun z=>tkK s z TBO) e2).trans (tk_none h3)
                 have hW:=W_val (num:=num) (va:=va) (vb:=vb) (vc:=vc) e3 h1 h2 h3
                 first
                   | exact ⟨_,_,_,_,p2.tk TBO,.inr (.inr rfl),rfl⟩
                   | exact resO1 (congrArg (fun r:Rd3=>r.1) hW) rfl
                   | exact updQ hW rfl)
              | (have h3:stB s 0 TBO=true:=(congrArg (fun z=>stB s z TBO) e2).symm.trans (by assumption)
                 have hP:(tkK s (tkK s (tkK s 0 ERR) RNG) TBO)=6:=(congrArg (fun z=>tkK s z TBO) e2).trans (tk_at h3)
                 have p3:PosIn s (tkK s (tkK s (tkK s 0 ERR) RNG) TBO):=p2.tk TBO
                 have pa:=hA s (tkK s (tkK s (tkK s 0 ERR) RNG) TBO) true p3
                 have wa:=wA s (tkK s (tkK s (tkK s 0 ERR) RNG) TBO) true p3
                 first
                   | exact ⟨_,_,_,_,p3,.inl rfl,rfl⟩
                   | exact ⟨_,_,_,_,pa,by decide,rfl⟩
                   | exact ⟨_,_,_,_,pa.tk COMMA,.inr (.inl rfl),rfl⟩
                   | exact ⟨_,_,_,_,pa,.inr (.inl rfl),rfl⟩
                   | exact ⟨_,_,_,_,hB _ _ _ (pa.tk COMMA),by decide,rfl⟩
                   | exact ⟨_,_,_,_,hB _ _ _ pa,by decide,rfl⟩
                   | (refine ⟨_,?_,rfl⟩
                      exact hT s (tkK s (tkK s (tkK s 0 ERR) RNG) TBO) true p3))))
    | skip
  all_goals (
    have h1:stB s 0 ERR=false:=by assumption
    have e1:tkK s 0 ERR=0:=tk_none h1
    have h2:stB s 0 RNG=false:=(congrArg (fun z=>stB s z RNG) e1).symm.trans (by assumption)
    have e2:(tkK s (tkK s 0 ERR) RNG)=0:=(congrArg (fun z=>tkK s z RNG) e1).trans (tk_none h2)
    have h3:stB s 0 TBO=true:=(congrArg (fun z=>stB s z TBO) e2).symm.trans (by assumption)
    have hP:(tkK s (tkK s (tkK s 0 ERR) RNG) TBO)=6:=(congrArg (fun z=>tkK s z TBO) e2).trans (tk_at h3)
    have p3:PosIn s (tkK s (tkK s (tkK s 0 ERR) RNG) TBO):=((hp.tk ERR).tk RNG).tk TBO
    have hW:=W_tbo (num:=num) (va:=va) (vb:=vb) (vc:=vc) hP h1 h2 h3
    have pa:=hA s (tkK s (tkK s (tkK s 0 ERR) RNG) TBO) true p3
    have wv0:=wB s (andK s (va s (tkK s (tkK s (tkK s 0 ERR) RNG) TBO) true).2.1 (va s (tkK s (tkK s (tkK s 0 ERR) RNG) TBO) true).2.2 COMMA) (andB s (va s (tkK s (tkK s (tkK s 0 ERR) RNG) TBO) true).2.1 (va s (tkK s (tkK s (tkK s 0 ERR) RNG) TBO) true).2.2 COMMA) (pa.andK _ _)
    have wv1:WfRow T cV (seqR s (va s (tkK s (tkK s (tkK s 0 ERR) RNG) TBO) true) (vb s)).1:=wv0.1
    have wt1:wRow (seqR s (va s (tkK s (tkK s (tkK s 0 ERR) RNG) TBO) true) (vb s)).1≤4194304:=wv0.2
    have wrows:=(wRows_cell (seqR s (va s (tkK s (tkK s (tkK s 0 ERR) RNG) TBO) true) (vb s)).1 4)
    have hl:(lst (seqR s (va s (tkK s (tkK s (tkK s 0 ERR) RNG) TBO) true) (vb s)).1).length≤4194304:=by unfold lst;omega
    have hwl:wRows (lst (seqR s (va s (tkK s (tkK s (tkK s 0 ERR) RNG) TBO) true) (vb s)).1)≤4194304:=by unfold lst;omega
    have hl' : (lst (seqR s (va s (tkK s (tkK s (tkK s 0 ERR) RNG) TBO) true) (vb s)).1).length≤maxLen:=Nat.le_trans hl (by decide)
    refine awp_loop (Q:=_) [0,2,8,105,106,107] [137,2,8] (fun m st=>∃ i:Nat,st=([.ptr 137 0 0,.ptr 2 1 0,.ptr 8 1 0,argS 53 (lst (seqR s (va s (tkK s (tkK s (tkK s 0 ERR) RNG) TBO) true) (vb s)).1),.val false [.i .i64 ((lst (seqR s (va s (tkK s (tkK s (tkK s 0 ERR) RNG) TBO) true) (vb s)).1)).length],iArg (i:Int)],[(0,[.val false [.s s],.val false [.i .i64 (endR s (vTbl (strRows (wordsB ((va s (tkK s (tkK s (tkK s 0 ERR) RNG) TBO) true).1.getD 3 default).str)) ((lst (seqR s (va s (tkK s (tkK s (tkK s 0 ERR) RNG) TBO) true) (vb s)).1).map rowOfV)) (seqR s (va s (tkK s (tkK s (tkK s 0 ERR) RNG) TBO) true) (vb s))).2.1],.val false [.b (endR s (vTbl (strRows (wordsB ((va s (tkK s (tkK s (tkK s 0 ERR) RNG) TBO) true).1.getD 3 default).str)) ((lst (seqR s (va s (tkK s (tkK s (tkK s 0 ERR) RNG) TBO) true) (vb s)).1).map rowOfV)) (seqR s (va s (tkK s (tkK s (tkK s 0 ERR) RNG) TBO) true) (vb s))).2.2]]),(1,[.val false [.i .i64 0],.val false [.i .i64 0],.val false [.i .i64 0],.val false [.s ByteArray.empty],.val false [.sl true 53 []],.val false [.sl true 9 []],.val false [.sl true 131 []]]),(1,[.val false [.i .i64 5],.val false [.i .i64 0],.val false [.i .i64 0],.val false [.s ByteArray.empty],.val false [.sl true 53 []],.val false [.sl true 9 (strRows (wordsB ((va s (tkK s (tkK s (tkK s 0 ERR) RNG) TBO) true).1.getD 3 default).str))],.val false [.sl true 131 (((lst (seqR s (va s (tkK s (tkK s (tkK s 0 ERR) RNG) TBO) true) (vb s)).1).take i).map rowOfV)]])])∧i≤(lst (seqR s (va s (tkK s (tkK s (tkK s 0 ERR) RNG) TBO) true) (vb s)).1).length∧m=(lst (seqR s (va s (tkK s (tkK s (tkK s 0 ERR) RNG) TBO) true) (vb s)).1).length - i) ?_ ?_
    · refine ⟨rfl,(lst (seqR s (va s (tkK s (tkK s (tkK s 0 ERR) RNG) TBO) true) (vb s)).1).length,0,?_,Nat.zero_le _,rfl⟩
      first
        | (have hc:=seqR_T (s:=s) (a:=va s (tkK s (tkK s (tkK s 0 ERR) RNG) TBO) true) (g:=vb s) (by assumption)
           first
             | exact snapLKB (f:=fun L K B=>(([.ptr 137 0 0,.ptr 2 1 0,.ptr 8 1 0,argS 53 L,.val false [.i .i64 (L).length],iArg 0],[(0,[.val false [.s s],.val false [.i .i64 K],.val false [.b B]]),(1,[.val false [.i .i64 0],.val false [.i .i64 0],.val false [.i .i64 0],.val false [.s ByteArray.empty],.val false [.sl true 53 []],.val false [.sl true 9 []],.val false [.sl true 131 []]]),(1,[.val false [.i .i64 5],.val false [.i .i64 0],.val false [.i .i64 0],.val false [.s ByteArray.empty],.val false [.sl true 53 []],.val false [.sl true 9 (strRows (wordsB ((va s (tkK s (tkK s (tkK s 0 ERR) RNG) TBO) true).1.getD 3 default).str))],.val false [.sl true 131 []]])]):Snap)) (congrArg (fun r:Rd3=>lst r.1) hc) (endR_T (v:=(vTbl (strRows (wordsB ((va s (tkK s (tkK s (tkK s 0 ERR) RNG) TBO) true).1.getD 3 default).str)) ((lst (seqR s (va s (tkK s (tkK s (tkK s 0 ERR) RNG) TBO) true) (vb s)).1).map rowOfV))) hc (by assumption))
             | exact snapLKB (f:=fun L K B=>(([.ptr 137 0 0,.ptr 2 1 0,.ptr 8 1 0,argS 53 L,.val false [.i .i64 (L).length],iArg 0],[(0,[.val false [.s s],.val false [.i .i64 K],.val false [.b B]]),(1,[.val false [.i .i64 0],.val false [.i .i64 0],.val false [.i .i64 0],.val false [.s ByteArray.empty],.val false [.sl true 53 []],.val false [.sl true 9 []],.val false [.sl true 131 []]]),(1,[.val false [.i .i64 5],.val false [.i .i64 0],.val false [.i .i64 0],.val false [.s ByteArray.empty],.val false [.sl true 53 []],.val false [.sl true 9 (strRows (wordsB ((va s (tkK s (tkK s (tkK s 0 ERR) RNG) TBO) true).1.getD 3 default).str))],.val false [.sl true 131 []]])]):Snap)) (congrArg (fun r:Rd3=>lst r.1) hc) (endR_F (v:=(vTbl (strRows (wordsB ((va s (tkK s (tkK s (tkK s 0 ERR) RNG) TBO) true).1.getD 3 default).str)) ((lst (seqR s (va s (tkK s (tkK s (tkK s 0 ERR) RNG) TBO) true) (vb s)).1).map rowOfV))) hc (by assumption)))
        | (have hc:=seqR_F (s:=s) (a:=va s (tkK s (tkK s (tkK s 0 ERR) RNG) TBO) true) (g:=vb s) (by assumption)
           first
             | exact snapLKB (f:=fun L K B=>(([.ptr 137 0 0,.ptr 2 1 0,.ptr 8 1 0,argS 53 L,.val false [.i .i64 (L).length],iArg 0],[(0,[.val false [.s s],.val false [.i .i64 K],.val false [.b B]]),(1,[.val false [.i .i64 0],.val false [.i .i64 0],.val false [.i .i64 0],.val false [.s ByteArray.empty],.val false [.sl true 53 []],.val false [.sl true 9 []],.val false [.sl true 131 []]]),(1,[.val false [.i .i64 5],.val false [.i .i64 0],.val false [.i .i64 0],.val false [.s ByteArray.empty],.val false [.sl true 53 []],.val false [.sl true 9 (strRows (wordsB ((va s (tkK s (tkK s (tkK s 0 ERR) RNG) TBO) true).1.getD 3 default).str))],.val false [.sl true 131 []]])]):Snap)) (congrArg (fun r:Rd3=>lst r.1) hc) (endR_T (v:=(vTbl (strRows (wordsB ((va s (tkK s (tkK s (tkK s 0 ERR) RNG) TBO) true).1.getD 3 default).str)) ((lst (seqR s (va s (tkK s (tkK s (tkK s 0 ERR) RNG) TBO) true) (vb s)).1).map rowOfV))) hc (by assumption))
             | exact snapLKB (f:=fun L K B=>(([.ptr 137 0 0,.ptr 2 1 0,.ptr 8 1 0,argS 53 L,.val false [.i .i64 (L).length],iArg 0],[(0,[.val false [.s s],.val false [.i .i64 K],.val false [.b B]]),(1,[.val false [.i .i64 0],.val false [.i .i64 0],.val false [.i .i64 0],.val false [.s ByteArray.empty],.val false [.sl true 53 []],.val false [.sl true 9 []],.val false [.sl true 131 []]]),(1,[.val false [.i .i64 5],.val false [.i .i64 0],.val false [.i .i64 0],.val false [.s ByteArray.empty],.val false [.sl true 53 []],.val false [.sl true 9 (strRows (wordsB ((va s (tkK s (tkK s (tkK s 0 ERR) RNG) TBO) true).1.getD 3 default).str))],.val false [.sl true 131 []]])]):Snap)) (congrArg (fun r:Rd3=>lst r.1) hc) (endR_F (v:=(vTbl (strRows (wordsB ((va s (tkK s (tkK s (tkK s 0 ERR) RNG) TBO) true).1.getD 3 default).str)) ((lst (seqR s (va s (tkK s (tkK s (tkK s 0 ERR) RNG) TBO) true) (vb s)).1).map rowOfV))) hc (by assumption)))
    rintro m st ⟨i,rfl,hle,rfl⟩
    repeat' first
      | (refine And.intro ?_ ?_)
      | (intro h;simp only [reduceCtorEq] at h;done)
      | (intro h;rw [h])
      | (intro h)
    all_goals first
      | (show lowEdges _=true;kernel_rfl)|(show logOk _ _=true;kernel_rfl)|exact True.intro|exact Or.inr rfl|exact Or.inl rfl
      | with_reducible exact Int.natCast_nonneg _
      | (have hi:¬ i < (lst (seqR s (va s (tkK s (tkK s (tkK s 0 ERR) RNG) TBO) true) (vb s)).1).length:=nltN (by assumption)
         first
           | (refine resO1 (congrArg (fun r:Rd3=>r.1) hW) ?_
              show _=rowO [.i .i64,.i .i64,.i .i64,.s,.l 53,.l 9,.l 131] (vTbl _ ((lst (seqR s (va s (tkK s (tkK s (tkK s 0 ERR) RNG) TBO) true) (vb s)).1).map rowOfV))
              rw [take_end hi]
              rfl)
           | exact updQ hW rfl)
      | (have hi:i < (lst (seqR s (va s (tkK s (tkK s (tkK s 0 ERR) RNG) TBO) true) (vb s)).1).length:=ltN (by assumption)
         first
           | (show (i:Int) < (((lst (seqR s (va s (tkK s (tkK s (tkK s 0 ERR) RNG) TBO) true) (vb s)).1)).length:Int);omega)
           | (show (Int.toNat (i:Int)) < _;rw [Int.toNat_natCast];exact hi))
      | skip
    have hi:i < (lst (seqR s (va s (tkK s (tkK s (tkK s 0 ERR) RNG) TBO) true) (vb s)).1).length:=ltN (by assumption)
    have wv:WfRow T cV (rAt (lst (seqR s (va s (tkK s (tkK s (tkK s 0 ERR) RNG) TBO) true) (vb s)).1) i):=wf_lst wv1 (by
      show (lst (seqR s (va s (tkK s (tkK s (tkK s 0 ERR) RNG) TBO) true) (vb s)).1).getD i [] ∈ (lst (seqR s (va s (tkK s (tkK s (tkK s 0 ERR) RNG) TBO) true) (vb s)).1)
      rw [List.getD_eq_getElem?_getD,List.getElem?_eq_getElem hi]
      exact List.getElem_mem hi)
    have wvl:(lst (rAt (lst (seqR s (va s (tkK s (tkK s (tkK s 0 ERR) RNG) TBO) true) (vb s)).1) i)).length≤4194304:=by
      have h1:=wRow_le hi
      have h2:=wRows_cell (rAt (lst (seqR s (va s (tkK s (tkK s (tkK s 0 ERR) RNG) TBO) true) (vb s)).1) i) 4
      have h3:wRow (rAt (lst (seqR s (va s (tkK s (tkK s (tkK s 0 ERR) RNG) TBO) true) (vb s)).1) i)≤wRows (lst (seqR s (va s (tkK s (tkK s (tkK s 0 ERR) RNG) TBO) true) (vb s)).1):=h1
      show ((rAt (lst (seqR s (va s (tkK s (tkK s (tkK s 0 ERR) RNG) TBO) true) (vb s)).1) i).getD 4 default).rows.length≤_
      omega
    have wl' : (lst (rAt (lst (seqR s (va s (tkK s (tkK s (tkK s 0 ERR) RNG) TBO) true) (vb s)).1) i)).length≤maxLen:=Nat.le_trans wvl (by decide)
    refine awp_loop (Q:=_) [0,2,8,105,106,107,11,113,114,115] [137,2,8,11] (fun m st=>∃ k' : Nat,st=([.ptr 137 0 0,.ptr 2 1 0,.ptr 8 1 0,argS 53 (lst (seqR s (va s (tkK s (tkK s (tkK s 0 ERR) RNG) TBO) true) (vb s)).1),.val false [.i .i64 ((lst (seqR s (va s (tkK s (tkK s (tkK s 0 ERR) RNG) TBO) true) (vb s)).1)).length],iArg (i:Int),.ptr 11 1 0,argS 53 (lst (rAt (lst (seqR s (va s (tkK s (tkK s (tkK s 0 ERR) RNG) TBO) true) (vb s)).1) i)),.val false [.i .i64 ((lst (rAt (lst (seqR s (va s (tkK s (tkK s (tkK s 0 ERR) RNG) TBO) true) (vb s)).1) i))).length],iArg (k' : Int)],[(0,[.val false [.s s],.val false [.i .i64 (endR s (vTbl (strRows (wordsB ((va s (tkK s (tkK s (tkK s 0 ERR) RNG) TBO) true).1.getD 3 default).str)) ((lst (seqR s (va s (tkK s (tkK s (tkK s 0 ERR) RNG) TBO) true) (vb s)).1).map rowOfV)) (seqR s (va s (tkK s (tkK s (tkK s 0 ERR) RNG) TBO) true) (vb s))).2.1],.val false [.b (endR s (vTbl (strRows (wordsB ((va s (tkK s (tkK s (tkK s 0 ERR) RNG) TBO) true).1.getD 3 default).str)) ((lst (seqR s (va s (tkK s (tkK s (tkK s 0 ERR) RNG) TBO) true) (vb s)).1).map rowOfV)) (seqR s (va s (tkK s (tkK s (tkK s 0 ERR) RNG) TBO) true) (vb s))).2.2]]),(1,[.val false [.i .i64 0],.val false [.i .i64 0],.val false [.i .i64 0],.val false [.s ByteArray.empty],.val false [.sl true 53 []],.val false [.sl true 9 []],.val false [.sl true 131 []]]),(1,[.val false [.i .i64 5],.val false [.i .i64 0],.val false [.i .i64 0],.val false [.s ByteArray.empty],.val false [.sl true 53 []],.val false [.sl true 9 (strRows (wordsB ((va s (tkK s (tkK s (tkK s 0 ERR) RNG) TBO) true).1.getD 3 default).str))],.val false [.sl true 131 (((lst (seqR s (va s (tkK s (tkK s (tkK s 0 ERR) RNG) TBO) true) (vb s)).1).take i).map rowOfV)]]),(1,[.val false [.sl true 3 (((lst (rAt (lst (seqR s (va s (tkK s (tkK s (tkK s 0 ERR) RNG) TBO) true) (vb s)).1) i)).take k').map fun y=>[D.i (iAt y 1)])],.val false [.sl true 167 []]])])∧k' ≤ (lst (rAt (lst (seqR s (va s (tkK s (tkK s (tkK s 0 ERR) RNG) TBO) true) (vb s)).1) i)).length∧m=(lst (rAt (lst (seqR s (va s (tkK s (tkK s (tkK s 0 ERR) RNG) TBO) true) (vb s)).1) i)).length - k') ?_ ?_
    · exact ⟨rfl,(lst (rAt (lst (seqR s (va s (tkK s (tkK s (tkK s 0 ERR) RNG) TBO) true) (vb s)).1) i)).length,0,rfl,Nat.zero_le _,rfl⟩
    rintro m st ⟨k',rfl,kle,rfl⟩
    repeat' first
      | (refine And.intro ?_ ?_)
      | (intro h;simp only [reduceCtorEq] at h;done)
      | (intro h;rw [h])
      | (intro h)
    all_goals first
      | (show lowEdges _=true;kernel_rfl)|(show logOk _ _=true;kernel_rfl)|exact True.intro|exact Or.inr rfl|exact Or.inl rfl
      | with_reducible exact Int.natCast_nonneg _
      | (have hk:k' < (lst (rAt (lst (seqR s (va s (tkK s (tkK s (tkK s 0 ERR) RNG) TBO) true) (vb s)).1) i)).length:=ltN (by assumption)
         first
           | (show (k' : Int) < (((lst (rAt (lst (seqR s (va s (tkK s (tkK s (tkK s 0 ERR) RNG) TBO) true) (vb s)).1) i))).length:Int);omega)
           | (show (Int.toNat (k' : Int)) < _;rw [Int.toNat_natCast];exact hk)
           | exact wf_int (wf_lst wv (by show (lst (rAt (lst (seqR s (va s (tkK s (tkK s (tkK s 0 ERR) RNG) TBO) true) (vb s)).1) i)).getD k' [] ∈ _;rw [List.getD_eq_getElem?_getD,List.getElem?_eq_getElem hk];exact List.getElem_mem hk))
           | (show (((lst (rAt (lst (seqR s (va s (tkK s (tkK s (tkK s 0 ERR) RNG) TBO) true) (vb s)).1) i)).take k').map _).length+1≤maxLen;rw [List.length_map,List.length_take];omega)
           | (show ((((lst (rAt (lst (seqR s (va s (tkK s (tkK s (tkK s 0 ERR) RNG) TBO) true) (vb s)).1) i)).take k').map _).length+1) * 8≤_;rw [List.length_map,List.length_take];omega)
           | (show Alive _ _;exact rfl)
           | (refine ⟨(lst (rAt (lst (seqR s (va s (tkK s (tkK s (tkK s 0 ERR) RNG) TBO) true) (vb s)).1) i)).length - (k' + 1),by omega,k' + 1,?_,by omega,rfl⟩
              exact snapRZ (f:=fun r z=>(([.ptr 137 0 0,.ptr 2 1 0,.ptr 8 1 0,argS 53 (lst (seqR s (va s (tkK s (tkK s (tkK s 0 ERR) RNG) TBO) true) (vb s)).1),.val false [.i .i64 ((lst (seqR s (va s (tkK s (tkK s (tkK s 0 ERR) RNG) TBO) true) (vb s)).1)).length],iArg (i:Int),.ptr 11 1 0,argS 53 (lst (rAt (lst (seqR s (va s (tkK s (tkK s (tkK s 0 ERR) RNG) TBO) true) (vb s)).1) i)),.val false [.i .i64 ((lst (rAt (lst (seqR s (va s (tkK s (tkK s (tkK s 0 ERR) RNG) TBO) true) (vb s)).1) i))).length],iArg z],[(0,[.val false [.s s],.val false [.i .i64 (endR s (vTbl (strRows (wordsB ((va s (tkK s (tkK s (tkK s 0 ERR) RNG) TBO) true).1.getD 3 default).str)) ((lst (seqR s (va s (tkK s (tkK s (tkK s 0 ERR) RNG) TBO) true) (vb s)).1).map rowOfV)) (seqR s (va s (tkK s (tkK s (tkK s 0 ERR) RNG) TBO) true) (vb s))).2.1],.val false [.b (endR s (vTbl (strRows (wordsB ((va s (tkK s (tkK s (tkK s 0 ERR) RNG) TBO) true).1.getD 3 default).str)) ((lst (seqR s (va s (tkK s (tkK s (tkK s 0 ERR) RNG) TBO) true) (vb s)).1).map rowOfV)) (seqR s (va s (tkK s (tkK s (tkK s 0 ERR) RNG) TBO) true) (vb s))).2.2]]),(1,[.val false [.i .i64 0],.val false [.i .i64 0],.val false [.i .i64 0],.val false [.s ByteArray.empty],.val false [.sl true 53 []],.val false [.sl true 9 []],.val false [.sl true 131 []]]),(1,[.val false [.i .i64 5],.val false [.i .i64 0],.val false [.i .i64 0],.val false [.s ByteArray.empty],.val false [.sl true 53 []],.val false [.sl true 9 (strRows (wordsB ((va s (tkK s (tkK s (tkK s 0 ERR) RNG) TBO) true).1.getD 3 default).str))],.val false [.sl true 131 (((lst (seqR s (va s (tkK s (tkK s (tkK s 0 ERR) RNG) TBO) true) (vb s)).1).take i).map rowOfV)]]),(1,[.val false [.sl true 3 r],.val false [.sl true 167 []]])]):Snap)) (rows_next (fun y=>[D.i (iAt y 1)]) hk) (wrapN hk wl')))
      | (have hk:¬ k' < (lst (rAt (lst (seqR s (va s (tkK s (tkK s (tkK s 0 ERR) RNG) TBO) true) (vb s)).1) i)).length:=nltN (by assumption)
         first
           | (show (((lst (seqR s (va s (tkK s (tkK s (tkK s 0 ERR) RNG) TBO) true) (vb s)).1).take i).map rowOfV).length+1≤maxLen;rw [List.length_map,List.length_take];omega)
           | (show ((((lst (seqR s (va s (tkK s (tkK s (tkK s 0 ERR) RNG) TBO) true) (vb s)).1).take i).map rowOfV).length+1) * 48≤_;rw [List.length_map,List.length_take];omega)
           | (show Alive _ _;exact rfl)
           | (refine ⟨(lst (seqR s (va s (tkK s (tkK s (tkK s 0 ERR) RNG) TBO) true) (vb s)).1).length - (i+1),by omega,i+1,?_,by omega,rfl⟩
              refine snapRZ (f:=fun r z=>(([.ptr 137 0 0,.ptr 2 1 0,.ptr 8 1 0,argS 53 (lst (seqR s (va s (tkK s (tkK s (tkK s 0 ERR) RNG) TBO) true) (vb s)).1),.val false [.i .i64 ((lst (seqR s (va s (tkK s (tkK s (tkK s 0 ERR) RNG) TBO) true) (vb s)).1)).length],iArg z],[(0,[.val false [.s s],.val false [.i .i64 (endR s (vTbl (strRows (wordsB ((va s (tkK s (tkK s (tkK s 0 ERR) RNG) TBO) true).1.getD 3 default).str)) ((lst (seqR s (va s (tkK s (tkK s (tkK s 0 ERR) RNG) TBO) true) (vb s)).1).map rowOfV)) (seqR s (va s (tkK s (tkK s (tkK s 0 ERR) RNG) TBO) true) (vb s))).2.1],.val false [.b (endR s (vTbl (strRows (wordsB ((va s (tkK s (tkK s (tkK s 0 ERR) RNG) TBO) true).1.getD 3 default).str)) ((lst (seqR s (va s (tkK s (tkK s (tkK s 0 ERR) RNG) TBO) true) (vb s)).1).map rowOfV)) (seqR s (va s (tkK s (tkK s (tkK s 0 ERR) RNG) TBO) true) (vb s))).2.2]]),(1,[.val false [.i .i64 0],.val false [.i .i64 0],.val false [.i .i64 0],.val false [.s ByteArray.empty],.val false [.sl true 53 []],.val false [.sl true 9 []],.val false [.sl true 131 []]]),(1,[.val false [.i .i64 5],.val false [.i .i64 0],.val false [.i .i64 0],.val false [.s ByteArray.empty],.val false [.sl true 53 []],.val false [.sl true 9 (strRows (wordsB ((va s (tkK s (tkK s (tkK s 0 ERR) RNG) TBO) true).1.getD 3 default).str))],.val false [.sl true 131 r]])]):Snap)) ?_ (wrapN hi hl')
              refine Eq.trans ?_ (rows_next rowOfV hi)
              rw [take_end hk]
              rfl))
      | skip)
theorem vo111 (d:Nat) (hd:d≤100):FOk Tryz.prog Td 111 (spRdD [.i .i64,.i .i64,.i .i64,.s,.l 53,.l 9,.l 131] d (fun s k b=>valI s d k b)):=FOk.on true (xval111 d hd) (fun args h=>by obtain ⟨s,k,b,x,_,_,rfl⟩:=h;exact rowC_fl T _ _)
  (fun _ cs args h=>by
    obtain ⟨s,k,b,x,_,_,he⟩:=h
    simp only [List.cons.injEq,SV.tup.injEq,Prod.mk.injEq,true_and,and_true] at he
    obtain ⟨rfl,rfl⟩:=he
    exact ⟨rfl,rfl⟩)
theorem xd53:FOk Tryz.prog Td 53 (spRdWO [.i .i64,.i .i64,.i .i64,.s,.l 53,.l 9,.l 131] wholeI) :=
  dw53 numIR (fun s k b=>valI s 0 k b) (fun s k b=>valI s 2 k b) (fun s k b=>valI s 3 k b) (fun s k b h=>num_in h) (fun s k b h=>val_in 0 h) (fun s k b h=>val_in 2 h)
    (fun s k b h=>⟨wf_val h.1 0 (by decide) k b h.2.1 h.2.2,val_w 0 (by decide) h⟩) (fun s k b h=>⟨wf_val h.1 2 (by decide) k b h.2.1 h.2.2,val_w 2 (by decide) h⟩) (fun s k b h=>val0_t h) xd109
    (FOk.rd2O (vo111 0 (by decide)) (vo111 2 (by decide)) (dval111 3 (by decide)))
theorem xd54:FOk Tryz.prog Td 54 { (spGT T [.i .i64,.i .i64,.i .i64,.s,.l 53,.l 9,.l 131] SmM fmtO) with nr:=true }:=(FOk.on true xk54 (fun args h=>by obtain ⟨a,_,_,rfl⟩:=h;rfl) (fun hb=>by cases hb)).lends
theorem dv25 (n:Nat) (wh:ByteArray→Rd3) (hwf:∀ s,s.size≤1048576→WfRow T cV (wh s).1) (hwt:∀ s,s.size≤1048576→wRow (wh s).1≤WM) (hp:FOk Tryz.prog Td 53 (spRdWO [.i .i64,.i .i64,.i .i64,.s,.l 53,.l 9,.l 131] wh)):FOk Tryz.prog Td 25 (spPVO [.i .i64,.i .i64,.i .i64,.s,.l 53,.l 9,.l 131] n (fun s=>pvOf (wh s).1 ((wh s).2.2 && (wh s).2.1 == (s.size:Int)) s)):=by
  refine fok (env:=envL [(53,(spRdWO [.i .i64,.i .i64,.i .i64,.s,.l 53,.l 9,.l 131] wh)),(54, { (spGT T [.i .i64,.i .i64,.i .i64,.s,.l 53,.l 9,.l 131] SmM fmtO) with nr:=true })]) (N:=37) tabTd (envD_cons hp (envD_cons xd54 envD_nil)) mixed Tryz.func25 rfl Tryz.call25 Tryz.ntmps25 ?_
  rintro args ⟨s,hs,hn,rfl⟩ hwf'
  clear hwf'
  have w:=hwf s hs
  have wt:=hwt s hs
  have w7:csD (rowO [.i .i64,.i .i64,.i .i64,.s,.l 53,.l 9,.l 131] (wh s).1)=(wh s).1:=csD_rowO w
  refine ⟨by simp,?_⟩
  rw [Tryz.results25]
  repeat' first
    | (refine And.intro ?_ ?_)
    | (intro h;simp only [reduceCtorEq] at h;done)
    | (intro h;rw [h])
    | (intro h)
  all_goals first
    | (show lowEdges _=true;kernel_rfl)|(show logOk _ _=true;kernel_rfl)|exact True.intro|exact Or.inr rfl|exact Or.inl rfl
    | exact rfl
    | exact ⟨_,hs,rfl⟩
    | exact ⟨(wh s).1,w,wt,rfl⟩
    | (rw [List.mem_singleton.1 h];exact True.intro)
    | exact resVBO (pv_1 (by rw [of_notT (show (!(wh s).2.2)=true by assumption)];rfl)) rfl rfl
    | (have hok:(wh s).2.2=true:=of_notF (by assumption)
       first
         | exact resVBO (pv_1 (by rw [hok,bne_T (show ((wh s).2.1 != (s.size:Int))=true by assumption)];rfl)) rfl rfl
         | (have hat:((wh s).2.1 == (s.size:Int))=true:=bne_F (by assumption)
            first
              | exact resVBO (pv_3 (by assumption)) rfl rfl
              | (have hz:(!(fmtO (wh s).1).toList == s.toList)=true:=(by rw [← w7];assumption)
                 exact resVBO (pv_2 hz) rfl rfl)
              | (have hz:(!(fmtO (wh s).1).toList == s.toList)=false:=(by rw [← w7];assumption)
                 exact resVBO (pv_4 (by rw [hok,hat];rfl) hz (by assumption)) rfl rfl)))
    | skip
theorem xd25 (n:Nat):FOk Tryz.prog Td 25 (spPVO [.i .i64,.i .i64,.i .i64,.s,.l 53,.l 9,.l 131] n pvI):=dv25 n wholeI (fun s hs=>wf_whole hs) (fun s hs=>whole_w hs) xd53
end Go.Proofs.YtkpnfbdoaljkpaaGreatDoor.Ab
