/- A part. -/
import Derived.Test.YtdkofgjbbdbglaaGreatDoorCYw
namespace Go.Proofs.YtdkofgjbbdbglaaGreatDoor.Ab
open Go.RowKit
set_option linter.all false
set_option maxRecDepth 100000
set_option maxHeartbeats 2000000
theorem xk143:FOk Tryz.prog T 143 xg:=by
 refine fok (env:=envL [(186,(rW idxT))]) (N:=7) tabT (aa jah ae) mixed Tryz.func143 rfl Tryz.call143 Tryz.ntmps143 ?_
 rintro args ⟨t,rfl⟩ hwf
 refine ⟨by simp,?_⟩
 clear hwf
 rw [Tryz.results143]
 repeat' first
  | refine And.intro ?_ ?_
  | (intro h;simp only [reduceCtorEq] at h;done)
  | (intro h;rw [h])
  | intro h
 all_goals first
  | exact True.intro
  | exact Or.inr rfl
  | exact ⟨_,_,rfl⟩
  | exact resI (jcw t)
theorem xw103 (num:ByteArray→Int→Bool→Rd3) (va vb vc:ByteArray→Int→Bool→Rd3) (hN:∀ s k b,PosIn s k→PosIn s (num s k b).2.1) (hA:∀ s k b,PosIn s k→PosIn s (va s k b).2.1) (hB:∀ s k b,PosIn s k→PosIn s (vb s k b).2.1)
 (wA:∀ s k b,PosIn s k→WfRow T cV (va s k b).1∧wRow (va s k b).1≤4194304) (wB:∀ s k b,PosIn s k→WfRow T cV (vb s k b).1∧wRow (vb s k b).1≤4194304)
 (hT:∀ s k b,PosIn s k→((va s k b).1.getD 3 default).str.size≤1048576) (hnum:FOk Tryz.prog T 144 (spRd cV (fun _ _ _=>True) num)) (hval:FOk Tryz.prog T 146 (rX cV va vb vc)):FOk Tryz.prog T 103 (vq cV (gp num va vb vc)):=by
 refine fokB (env:=envL [(141,pE),(143,xg),(142,(mT cV vErr)),(144,(spRd cV (fun _ _ _=>True) num)),(145,(vu cV vStr)),(146,(rX cV va vb vc)),(69,(fW false))]) (N:=137) tabT (aa yi (aa xk143 (aa xk142 (aa hnum (aa xk145 (aa hval (aa ok69 ae))))))) mixed Tryz.func103 rfl Tryz.call103 Tryz.ntmps103 ?_
 rintro cs args ⟨s,hz,he⟩ hwf
 simp only [jdw,SV.tup.injEq,jdA,true_and,and_true] at he
 obtain ⟨rfl,rfl⟩:=he
 have hp:PosIn s 0:=⟨hz,jdR _,jdk _⟩
 refine ⟨by simp,?_⟩
 clear hwf
 rw [Tryz.results103]
 repeat' first
  | refine And.intro ?_ ?_
  | (intro h;simp only [reduceCtorEq] at h;done)
  | (intro h;rw [h])
  | intro h
 all_goals first
  | (show av _=true;kernel_rfl)
  | (show ba _ _=true;kernel_rfl)
  | exact True.intro
  | exact Or.inr rfl
  | exact rfl
  | exact ⟨_,_,_,_,hp,by decide,rfl⟩
  | exact ⟨_,rfl⟩
  | exact ⟨_,_,rfl⟩
  | (have h1:stB s 0 ERR=true:=by assumption
     have hP:tkK s 0 ERR=6:=vi h1
     have hb:=bp h1
     have e6:(ERR.size:Int)=6:=rfl
     first
      | (show (0:Int)≤tkK s 0 ERR;rw [hP];decide)
      | (show tkK s 0 ERR≤(s.size:Int);rw [hP];omega)
      | exact jdR _
      | (refine sO (congrArg (fun r:Rd3=>r.1) (jc3 h1)) ?_
         have ht:s.extract (tkK s 0 ERR).toNat (s.size:Int).toNat=s.extract 6 s.size:=by rw [hP];rfl
         exact congrArg (fun t=>rowC cV (vErr (errI t))) ht)
      | exact updQ (jc3 h1) rfl)
  | (have h1:stB s 0 ERR=false:=by assumption
     have e1:tkK s 0 ERR=0:=cY h1
     have p1:PosIn s (tkK s 0 ERR):=hp.tk ERR
     first
      | exact ⟨_,_,_,_,p1,by decide,rfl⟩
      | (have h2:stB s 0 RNG=true:=(congrArg (fun z=>stB s z RNG) e1).symm.trans (by assumption)
         have hP:(tkK s (tkK s 0 ERR) RNG)=6:=(congrArg (fun z=>tkK s z RNG) e1).trans (vi h2)
         have p2:PosIn s (tkK s (tkK s 0 ERR) RNG):=p1.tk RNG
         have pa:=hN s (tkK s (tkK s 0 ERR) RNG) true p2
         have hW:=W_rng (num:=num) (va:=va) (vb:=vb) (vc:=vc) hP h1 h2
         first
          | exact ⟨_,_,_,p2,trivial,rfl⟩
          | exact ⟨_,_,_,_,pa,by decide,rfl⟩
          | exact ⟨_,_,_,pa.tk COMMA,trivial,rfl⟩
          | exact ⟨_,_,_,pa,trivial,rfl⟩
          | exact ⟨_,_,_,_,hN _ _ _ (pa.tk COMMA),by decide,rfl⟩
          | exact ⟨_,_,_,_,hN _ _ _ pa,by decide,rfl⟩
          | (have hc:=xn (s:=s) (a:=num s (tkK s (tkK s 0 ERR) RNG) true) (g:=num s) (by assumption)
             first
              | exact sO ((congrArg (fun r:Rd3=>r.1) hW).trans (congrArg (fun c:Rd3=>vStr (iAt (num s (tkK s (tkK s 0 ERR) RNG) true).1 1) (iAt c.1 1)) hc.symm)) rfl
              | exact updQ hW (qi hc (by assumption))
              | exact updQ hW (qj hc (by assumption)))
          | (have hc:=xp (s:=s) (a:=num s (tkK s (tkK s 0 ERR) RNG) true) (g:=num s) (by assumption)
             first
              | exact sO ((congrArg (fun r:Rd3=>r.1) hW).trans (congrArg (fun c:Rd3=>vStr (iAt (num s (tkK s (tkK s 0 ERR) RNG) true).1 1) (iAt c.1 1)) hc.symm)) rfl
              | exact updQ hW (qi hc (by assumption))
              | exact updQ hW (qj hc (by assumption))))
      | (have h2:stB s 0 RNG=false:=(congrArg (fun z=>stB s z RNG) e1).symm.trans (by assumption)
         have e2:(tkK s (tkK s 0 ERR) RNG)=0:=(congrArg (fun z=>tkK s z RNG) e1).trans (cY h2)
         have p2:PosIn s (tkK s (tkK s 0 ERR) RNG):=p1.tk RNG
         first
          | exact ⟨_,_,_,_,p2,by decide,rfl⟩
          | (have h3:stB s 0 TBO=false:=(congrArg (fun z=>stB s z TBO) e2).symm.trans (by assumption)
             have e3:(tkK s (tkK s (tkK s 0 ERR) RNG) TBO)=0:=(congrArg (fun z=>tkK s z TBO) e2).trans (cY h3)
             have hW:=W_val (num:=num) (va:=va) (vb:=vb) (vc:=vc) e3 h1 h2 h3
             first
              | exact ⟨_,_,_,_,p2.tk TBO,.inr (.inr rfl),rfl⟩
              | exact sO (congrArg (fun r:Rd3=>r.1) hW) rfl
              | exact updQ hW rfl)
          | (have h3:stB s 0 TBO=true:=(congrArg (fun z=>stB s z TBO) e2).symm.trans (by assumption)
             have hP:(tkK s (tkK s (tkK s 0 ERR) RNG) TBO)=6:=(congrArg (fun z=>tkK s z TBO) e2).trans (vi h3)
             have p3:PosIn s (tkK s (tkK s (tkK s 0 ERR) RNG) TBO):=p2.tk TBO
             have pa:=hA s (tkK s (tkK s (tkK s 0 ERR) RNG) TBO) true p3
             have wa:=wA s (tkK s (tkK s (tkK s 0 ERR) RNG) TBO) true p3
             first
              | exact ⟨_,_,_,_,p3,.inl rfl,rfl⟩
              | exact ⟨_,_,_,_,pa,by decide,rfl⟩
              | exact ⟨_,_,_,_,pa.tk COMMA,.inr (.inl rfl),rfl⟩
              | exact ⟨_,_,_,_,pa,.inr (.inl rfl),rfl⟩
              | exact ⟨_,_,_,_,hB _ _ _ (pa.tk COMMA),by decide,rfl⟩
              | exact ⟨_,_,_,_,hB _ _ _ pa,by decide,rfl⟩
              | (refine ⟨_,?_,rfl⟩
                 exact hT s (tkK s (tkK s (tkK s 0 ERR) RNG) TBO) true p3))))
  | skip
 all_goals (
  have h1:stB s 0 ERR=false:=by assumption
  have e1:tkK s 0 ERR=0:=cY h1
  have h2:stB s 0 RNG=false:=(congrArg (fun z=>stB s z RNG) e1).symm.trans (by assumption)
  have e2:(tkK s (tkK s 0 ERR) RNG)=0:=(congrArg (fun z=>tkK s z RNG) e1).trans (cY h2)
  have h3:stB s 0 TBO=true:=(congrArg (fun z=>stB s z TBO) e2).symm.trans (by assumption)
  have hP:(tkK s (tkK s (tkK s 0 ERR) RNG) TBO)=6:=(congrArg (fun z=>tkK s z TBO) e2).trans (vi h3)
  have p3:PosIn s (tkK s (tkK s (tkK s 0 ERR) RNG) TBO):=((hp.tk ERR).tk RNG).tk TBO
  have hW:=jc2 (num:=num) (va:=va) (vb:=vb) (vc:=vc) hP h1 h2 h3
  have pa:=hA s (tkK s (tkK s (tkK s 0 ERR) RNG) TBO) true p3
  have wv0:=wB s (andK s (va s (tkK s (tkK s (tkK s 0 ERR) RNG) TBO) true).2.1 (va s (tkK s (tkK s (tkK s 0 ERR) RNG) TBO) true).2.2 COMMA) (andB s (va s (tkK s (tkK s (tkK s 0 ERR) RNG) TBO) true).2.1 (va s (tkK s (tkK s (tkK s 0 ERR) RNG) TBO) true).2.2 COMMA) (pa.andK _ _)
  have wv1:WfRow T cV (seqR s (va s (tkK s (tkK s (tkK s 0 ERR) RNG) TBO) true) (vb s)).1:=wv0.1
  have wt1:wRow (seqR s (va s (tkK s (tkK s (tkK s 0 ERR) RNG) TBO) true) (vb s)).1≤4194304:=wv0.2
  have wrows:=(cv (seqR s (va s (tkK s (tkK s (tkK s 0 ERR) RNG) TBO) true) (vb s)).1 4)
  have hl:(lst (seqR s (va s (tkK s (tkK s (tkK s 0 ERR) RNG) TBO) true) (vb s)).1).length≤4194304:=by unfold lst;omega
  have hwl:aO (lst (seqR s (va s (tkK s (tkK s (tkK s 0 ERR) RNG) TBO) true) (vb s)).1)≤4194304:=by unfold lst;omega
  have hl' : (lst (seqR s (va s (tkK s (tkK s (tkK s 0 ERR) RNG) TBO) true) (vb s)).1).length≤maxLen:=jdd hl (by decide)
  refine aj (Q:=_) [0,2,8,105,106,107] [137,2,8] (fun m st=>∃ i:Nat,st=([.ptr 137 0 0,.ptr 2 1 0,.ptr 8 1 0,argS 74 (lst (seqR s (va s (tkK s (tkK s (tkK s 0 ERR) RNG) TBO) true) (vb s)).1),.val false [.i .i64 ((lst (seqR s (va s (tkK s (tkK s (tkK s 0 ERR) RNG) TBO) true) (vb s)).1)).length],iArg (i:Int)],[(0,[.val false [.s s],.val false [.i .i64 (endR s (vTbl (ac (ah ((va s (tkK s (tkK s (tkK s 0 ERR) RNG) TBO) true).1.getD 3 default).str)) ((lst (seqR s (va s (tkK s (tkK s (tkK s 0 ERR) RNG) TBO) true) (vb s)).1).map aI)) (seqR s (va s (tkK s (tkK s (tkK s 0 ERR) RNG) TBO) true) (vb s))).2.1],.val false [.b (endR s (vTbl (ac (ah ((va s (tkK s (tkK s (tkK s 0 ERR) RNG) TBO) true).1.getD 3 default).str)) ((lst (seqR s (va s (tkK s (tkK s (tkK s 0 ERR) RNG) TBO) true) (vb s)).1).map aI)) (seqR s (va s (tkK s (tkK s (tkK s 0 ERR) RNG) TBO) true) (vb s))).2.2]]),(1,[.val false [.i .i64 0],.val false [.i .i64 0],.val false [.i .i64 0],.val false [.s ByteArray.empty],.val false [.sl true 74 []],.val false [.sl true 9 []],.val false [.sl true 124 []]]),(1,[.val false [.i .i64 5],.val false [.i .i64 0],.val false [.i .i64 0],.val false [.s ByteArray.empty],.val false [.sl true 74 []],.val false [.sl false 9 (ac (ah ((va s (tkK s (tkK s (tkK s 0 ERR) RNG) TBO) true).1.getD 3 default).str))],.val false [.sl true 124 (((lst (seqR s (va s (tkK s (tkK s (tkK s 0 ERR) RNG) TBO) true) (vb s)).1).take i).map aI)]])])∧i≤(lst (seqR s (va s (tkK s (tkK s (tkK s 0 ERR) RNG) TBO) true) (vb s)).1).length∧m=(lst (seqR s (va s (tkK s (tkK s (tkK s 0 ERR) RNG) TBO) true) (vb s)).1).length - i) ?_ ?_
  · refine ⟨rfl,(lst (seqR s (va s (tkK s (tkK s (tkK s 0 ERR) RNG) TBO) true) (vb s)).1).length,0,?_,jc7 _,rfl⟩
    first
     | (have hc:=xn (s:=s) (a:=va s (tkK s (tkK s (tkK s 0 ERR) RNG) TBO) true) (g:=vb s) (by assumption)
        first
         | exact lP (f:=fun L K B=>(([.ptr 137 0 0,.ptr 2 1 0,.ptr 8 1 0,argS 74 L,.val false [.i .i64 (L).length],iArg 0],[(0,[.val false [.s s],.val false [.i .i64 K],.val false [.b B]]),(1,[.val false [.i .i64 0],.val false [.i .i64 0],.val false [.i .i64 0],.val false [.s ByteArray.empty],.val false [.sl true 74 []],.val false [.sl true 9 []],.val false [.sl true 124 []]]),(1,[.val false [.i .i64 5],.val false [.i .i64 0],.val false [.i .i64 0],.val false [.s ByteArray.empty],.val false [.sl true 74 []],.val false [.sl false 9 (ac (ah ((va s (tkK s (tkK s (tkK s 0 ERR) RNG) TBO) true).1.getD 3 default).str))],.val false [.sl true 124 []]])]):Snap)) (congrArg (fun r:Rd3=>lst r.1) hc) (qi (v:=(vTbl (ac (ah ((va s (tkK s (tkK s (tkK s 0 ERR) RNG) TBO) true).1.getD 3 default).str)) ((lst (seqR s (va s (tkK s (tkK s (tkK s 0 ERR) RNG) TBO) true) (vb s)).1).map aI))) hc (by assumption))
         | exact lP (f:=fun L K B=>(([.ptr 137 0 0,.ptr 2 1 0,.ptr 8 1 0,argS 74 L,.val false [.i .i64 (L).length],iArg 0],[(0,[.val false [.s s],.val false [.i .i64 K],.val false [.b B]]),(1,[.val false [.i .i64 0],.val false [.i .i64 0],.val false [.i .i64 0],.val false [.s ByteArray.empty],.val false [.sl true 74 []],.val false [.sl true 9 []],.val false [.sl true 124 []]]),(1,[.val false [.i .i64 5],.val false [.i .i64 0],.val false [.i .i64 0],.val false [.s ByteArray.empty],.val false [.sl true 74 []],.val false [.sl false 9 (ac (ah ((va s (tkK s (tkK s (tkK s 0 ERR) RNG) TBO) true).1.getD 3 default).str))],.val false [.sl true 124 []]])]):Snap)) (congrArg (fun r:Rd3=>lst r.1) hc) (qj (v:=(vTbl (ac (ah ((va s (tkK s (tkK s (tkK s 0 ERR) RNG) TBO) true).1.getD 3 default).str)) ((lst (seqR s (va s (tkK s (tkK s (tkK s 0 ERR) RNG) TBO) true) (vb s)).1).map aI))) hc (by assumption)))
     | (have hc:=xp (s:=s) (a:=va s (tkK s (tkK s (tkK s 0 ERR) RNG) TBO) true) (g:=vb s) (by assumption)
        first
         | exact lP (f:=fun L K B=>(([.ptr 137 0 0,.ptr 2 1 0,.ptr 8 1 0,argS 74 L,.val false [.i .i64 (L).length],iArg 0],[(0,[.val false [.s s],.val false [.i .i64 K],.val false [.b B]]),(1,[.val false [.i .i64 0],.val false [.i .i64 0],.val false [.i .i64 0],.val false [.s ByteArray.empty],.val false [.sl true 74 []],.val false [.sl true 9 []],.val false [.sl true 124 []]]),(1,[.val false [.i .i64 5],.val false [.i .i64 0],.val false [.i .i64 0],.val false [.s ByteArray.empty],.val false [.sl true 74 []],.val false [.sl false 9 (ac (ah ((va s (tkK s (tkK s (tkK s 0 ERR) RNG) TBO) true).1.getD 3 default).str))],.val false [.sl true 124 []]])]):Snap)) (congrArg (fun r:Rd3=>lst r.1) hc) (qi (v:=(vTbl (ac (ah ((va s (tkK s (tkK s (tkK s 0 ERR) RNG) TBO) true).1.getD 3 default).str)) ((lst (seqR s (va s (tkK s (tkK s (tkK s 0 ERR) RNG) TBO) true) (vb s)).1).map aI))) hc (by assumption))
         | exact lP (f:=fun L K B=>(([.ptr 137 0 0,.ptr 2 1 0,.ptr 8 1 0,argS 74 L,.val false [.i .i64 (L).length],iArg 0],[(0,[.val false [.s s],.val false [.i .i64 K],.val false [.b B]]),(1,[.val false [.i .i64 0],.val false [.i .i64 0],.val false [.i .i64 0],.val false [.s ByteArray.empty],.val false [.sl true 74 []],.val false [.sl true 9 []],.val false [.sl true 124 []]]),(1,[.val false [.i .i64 5],.val false [.i .i64 0],.val false [.i .i64 0],.val false [.s ByteArray.empty],.val false [.sl true 74 []],.val false [.sl false 9 (ac (ah ((va s (tkK s (tkK s (tkK s 0 ERR) RNG) TBO) true).1.getD 3 default).str))],.val false [.sl true 124 []]])]):Snap)) (congrArg (fun r:Rd3=>lst r.1) hc) (qj (v:=(vTbl (ac (ah ((va s (tkK s (tkK s (tkK s 0 ERR) RNG) TBO) true).1.getD 3 default).str)) ((lst (seqR s (va s (tkK s (tkK s (tkK s 0 ERR) RNG) TBO) true) (vb s)).1).map aI))) hc (by assumption)))
  rintro m st ⟨i,rfl,hle,rfl⟩
  repeat' first
   | refine And.intro ?_ ?_
   | (intro h;simp only [reduceCtorEq] at h;done)
   | (intro h;rw [h])
   | intro h
  all_goals first
   | exact True.intro
   | exact Or.inr rfl
   | with_reducible exact jdk _
   | (have hi:¬ i < (lst (seqR s (va s (tkK s (tkK s (tkK s 0 ERR) RNG) TBO) true) (vb s)).1).length:=nltN (by assumption)
      first
       | (refine sO (congrArg (fun r:Rd3=>r.1) hW) ?_
          show _=rowC cV (vTbl _ ((lst (seqR s (va s (tkK s (tkK s (tkK s 0 ERR) RNG) TBO) true) (vb s)).1).map aI))
          rw [cB hi]
          rfl)
       | exact updQ hW rfl)
   | (have hi:i < (lst (seqR s (va s (tkK s (tkK s (tkK s 0 ERR) RNG) TBO) true) (vb s)).1).length:=ltN (by assumption)
      first
       | (show (i:Int) < (((lst (seqR s (va s (tkK s (tkK s (tkK s 0 ERR) RNG) TBO) true) (vb s)).1)).length:Int);omega))
   | skip
  have hi:i < (lst (seqR s (va s (tkK s (tkK s (tkK s 0 ERR) RNG) TBO) true) (vb s)).1).length:=ltN (by assumption)
  have wv:WfRow T cV (rAt (lst (seqR s (va s (tkK s (tkK s (tkK s 0 ERR) RNG) TBO) true) (vb s)).1) i):=rA wv1 (by
   show (lst (seqR s (va s (tkK s (tkK s (tkK s 0 ERR) RNG) TBO) true) (vb s)).1).getD i [] ∈ (lst (seqR s (va s (tkK s (tkK s (tkK s 0 ERR) RNG) TBO) true) (vb s)).1)
   rw [jdb,jc5 hi]
   exact jew hi)
  have wvl:(lst (rAt (lst (seqR s (va s (tkK s (tkK s (tkK s 0 ERR) RNG) TBO) true) (vb s)).1) i)).length≤4194304:=by
   have h1:=hU hi
   have h2:=cv (rAt (lst (seqR s (va s (tkK s (tkK s (tkK s 0 ERR) RNG) TBO) true) (vb s)).1) i) 4
   have h3:wRow (rAt (lst (seqR s (va s (tkK s (tkK s (tkK s 0 ERR) RNG) TBO) true) (vb s)).1) i)≤aO (lst (seqR s (va s (tkK s (tkK s (tkK s 0 ERR) RNG) TBO) true) (vb s)).1):=h1
   show ((rAt (lst (seqR s (va s (tkK s (tkK s (tkK s 0 ERR) RNG) TBO) true) (vb s)).1) i).getD 4 default).rows.length≤_
   omega
  have wl' : (lst (rAt (lst (seqR s (va s (tkK s (tkK s (tkK s 0 ERR) RNG) TBO) true) (vb s)).1) i)).length≤maxLen:=jdd wvl (by decide)
  refine aj (Q:=_) [0,2,8,105,106,107,11,113,114,115] [137,2,8,11] (fun m st=>∃ k' : Nat,st=([.ptr 137 0 0,.ptr 2 1 0,.ptr 8 1 0,argS 74 (lst (seqR s (va s (tkK s (tkK s (tkK s 0 ERR) RNG) TBO) true) (vb s)).1),.val false [.i .i64 ((lst (seqR s (va s (tkK s (tkK s (tkK s 0 ERR) RNG) TBO) true) (vb s)).1)).length],iArg (i:Int),.ptr 11 1 0,argS 74 (lst (rAt (lst (seqR s (va s (tkK s (tkK s (tkK s 0 ERR) RNG) TBO) true) (vb s)).1) i)),.val false [.i .i64 ((lst (rAt (lst (seqR s (va s (tkK s (tkK s (tkK s 0 ERR) RNG) TBO) true) (vb s)).1) i))).length],iArg (k' : Int)],[(0,[.val false [.s s],.val false [.i .i64 (endR s (vTbl (ac (ah ((va s (tkK s (tkK s (tkK s 0 ERR) RNG) TBO) true).1.getD 3 default).str)) ((lst (seqR s (va s (tkK s (tkK s (tkK s 0 ERR) RNG) TBO) true) (vb s)).1).map aI)) (seqR s (va s (tkK s (tkK s (tkK s 0 ERR) RNG) TBO) true) (vb s))).2.1],.val false [.b (endR s (vTbl (ac (ah ((va s (tkK s (tkK s (tkK s 0 ERR) RNG) TBO) true).1.getD 3 default).str)) ((lst (seqR s (va s (tkK s (tkK s (tkK s 0 ERR) RNG) TBO) true) (vb s)).1).map aI)) (seqR s (va s (tkK s (tkK s (tkK s 0 ERR) RNG) TBO) true) (vb s))).2.2]]),(1,[.val false [.i .i64 0],.val false [.i .i64 0],.val false [.i .i64 0],.val false [.s ByteArray.empty],.val false [.sl true 74 []],.val false [.sl true 9 []],.val false [.sl true 124 []]]),(1,[.val false [.i .i64 5],.val false [.i .i64 0],.val false [.i .i64 0],.val false [.s ByteArray.empty],.val false [.sl true 74 []],.val false [.sl false 9 (ac (ah ((va s (tkK s (tkK s (tkK s 0 ERR) RNG) TBO) true).1.getD 3 default).str))],.val false [.sl true 124 (((lst (seqR s (va s (tkK s (tkK s (tkK s 0 ERR) RNG) TBO) true) (vb s)).1).take i).map aI)]]),(1,[.val false [.sl true 3 (((lst (rAt (lst (seqR s (va s (tkK s (tkK s (tkK s 0 ERR) RNG) TBO) true) (vb s)).1) i)).take k').map fun y=>[D.i (iAt y 1)])],.val false [.sl true 150 []]])])∧k' ≤ (lst (rAt (lst (seqR s (va s (tkK s (tkK s (tkK s 0 ERR) RNG) TBO) true) (vb s)).1) i)).length∧m=(lst (rAt (lst (seqR s (va s (tkK s (tkK s (tkK s 0 ERR) RNG) TBO) true) (vb s)).1) i)).length - k') ?_ ?_
  · exact ⟨rfl,(lst (rAt (lst (seqR s (va s (tkK s (tkK s (tkK s 0 ERR) RNG) TBO) true) (vb s)).1) i)).length,0,rfl,jc7 _,rfl⟩
  rintro m st ⟨k',rfl,kle,rfl⟩
  repeat' first
   | refine And.intro ?_ ?_
   | (intro h;simp only [reduceCtorEq] at h;done)
   | (intro h;rw [h])
   | intro h
  all_goals first
   | with_reducible exact jdk _
   | (have hk:k' < (lst (rAt (lst (seqR s (va s (tkK s (tkK s (tkK s 0 ERR) RNG) TBO) true) (vb s)).1) i)).length:=ltN (by assumption)
      first
       | (show (k' : Int) < (((lst (rAt (lst (seqR s (va s (tkK s (tkK s (tkK s 0 ERR) RNG) TBO) true) (vb s)).1) i))).length:Int);omega)
       | (show (((lst (rAt (lst (seqR s (va s (tkK s (tkK s (tkK s 0 ERR) RNG) TBO) true) (vb s)).1) i)).take k').map _).length+1≤maxLen;rw [jdi,jdp];omega)
       | (show ((((lst (rAt (lst (seqR s (va s (tkK s (tkK s (tkK s 0 ERR) RNG) TBO) true) (vb s)).1) i)).take k').map _).length+1) * 8≤_;rw [jdi,jdp];omega)
       | (show aX _ _;exact rfl)
       | (refine ⟨(lst (rAt (lst (seqR s (va s (tkK s (tkK s (tkK s 0 ERR) RNG) TBO) true) (vb s)).1) i)).length - (k' + 1),by omega,k' + 1,?_,by omega,rfl⟩
          exact ej (f:=fun r z=>(([.ptr 137 0 0,.ptr 2 1 0,.ptr 8 1 0,argS 74 (lst (seqR s (va s (tkK s (tkK s (tkK s 0 ERR) RNG) TBO) true) (vb s)).1),.val false [.i .i64 ((lst (seqR s (va s (tkK s (tkK s (tkK s 0 ERR) RNG) TBO) true) (vb s)).1)).length],iArg (i:Int),.ptr 11 1 0,argS 74 (lst (rAt (lst (seqR s (va s (tkK s (tkK s (tkK s 0 ERR) RNG) TBO) true) (vb s)).1) i)),.val false [.i .i64 ((lst (rAt (lst (seqR s (va s (tkK s (tkK s (tkK s 0 ERR) RNG) TBO) true) (vb s)).1) i))).length],iArg z],[(0,[.val false [.s s],.val false [.i .i64 (endR s (vTbl (ac (ah ((va s (tkK s (tkK s (tkK s 0 ERR) RNG) TBO) true).1.getD 3 default).str)) ((lst (seqR s (va s (tkK s (tkK s (tkK s 0 ERR) RNG) TBO) true) (vb s)).1).map aI)) (seqR s (va s (tkK s (tkK s (tkK s 0 ERR) RNG) TBO) true) (vb s))).2.1],.val false [.b (endR s (vTbl (ac (ah ((va s (tkK s (tkK s (tkK s 0 ERR) RNG) TBO) true).1.getD 3 default).str)) ((lst (seqR s (va s (tkK s (tkK s (tkK s 0 ERR) RNG) TBO) true) (vb s)).1).map aI)) (seqR s (va s (tkK s (tkK s (tkK s 0 ERR) RNG) TBO) true) (vb s))).2.2]]),(1,[.val false [.i .i64 0],.val false [.i .i64 0],.val false [.i .i64 0],.val false [.s ByteArray.empty],.val false [.sl true 74 []],.val false [.sl true 9 []],.val false [.sl true 124 []]]),(1,[.val false [.i .i64 5],.val false [.i .i64 0],.val false [.i .i64 0],.val false [.s ByteArray.empty],.val false [.sl true 74 []],.val false [.sl false 9 (ac (ah ((va s (tkK s (tkK s (tkK s 0 ERR) RNG) TBO) true).1.getD 3 default).str))],.val false [.sl true 124 (((lst (seqR s (va s (tkK s (tkK s (tkK s 0 ERR) RNG) TBO) true) (vb s)).1).take i).map aI)]]),(1,[.val false [.sl true 3 r],.val false [.sl true 150 []]])]):Snap)) (eQ (fun y=>[D.i (iAt y 1)]) hk) (wrapN hk wl')))
   | (have hk:¬ k' < (lst (rAt (lst (seqR s (va s (tkK s (tkK s (tkK s 0 ERR) RNG) TBO) true) (vb s)).1) i)).length:=nltN (by assumption)
      first
       | (show (((lst (seqR s (va s (tkK s (tkK s (tkK s 0 ERR) RNG) TBO) true) (vb s)).1).take i).map aI).length+1≤maxLen;rw [jdi,jdp];omega)
       | (show ((((lst (seqR s (va s (tkK s (tkK s (tkK s 0 ERR) RNG) TBO) true) (vb s)).1).take i).map aI).length+1) * 48≤_;rw [jdi,jdp];omega)
       | (show aX _ _;exact rfl)
       | (refine ⟨(lst (seqR s (va s (tkK s (tkK s (tkK s 0 ERR) RNG) TBO) true) (vb s)).1).length - (i+1),by omega,i+1,?_,by omega,rfl⟩
          refine ej (f:=fun r z=>(([.ptr 137 0 0,.ptr 2 1 0,.ptr 8 1 0,argS 74 (lst (seqR s (va s (tkK s (tkK s (tkK s 0 ERR) RNG) TBO) true) (vb s)).1),.val false [.i .i64 ((lst (seqR s (va s (tkK s (tkK s (tkK s 0 ERR) RNG) TBO) true) (vb s)).1)).length],iArg z],[(0,[.val false [.s s],.val false [.i .i64 (endR s (vTbl (ac (ah ((va s (tkK s (tkK s (tkK s 0 ERR) RNG) TBO) true).1.getD 3 default).str)) ((lst (seqR s (va s (tkK s (tkK s (tkK s 0 ERR) RNG) TBO) true) (vb s)).1).map aI)) (seqR s (va s (tkK s (tkK s (tkK s 0 ERR) RNG) TBO) true) (vb s))).2.1],.val false [.b (endR s (vTbl (ac (ah ((va s (tkK s (tkK s (tkK s 0 ERR) RNG) TBO) true).1.getD 3 default).str)) ((lst (seqR s (va s (tkK s (tkK s (tkK s 0 ERR) RNG) TBO) true) (vb s)).1).map aI)) (seqR s (va s (tkK s (tkK s (tkK s 0 ERR) RNG) TBO) true) (vb s))).2.2]]),(1,[.val false [.i .i64 0],.val false [.i .i64 0],.val false [.i .i64 0],.val false [.s ByteArray.empty],.val false [.sl true 74 []],.val false [.sl true 9 []],.val false [.sl true 124 []]]),(1,[.val false [.i .i64 5],.val false [.i .i64 0],.val false [.i .i64 0],.val false [.s ByteArray.empty],.val false [.sl true 74 []],.val false [.sl false 9 (ac (ah ((va s (tkK s (tkK s (tkK s 0 ERR) RNG) TBO) true).1.getD 3 default).str))],.val false [.sl true 124 r]])]):Snap)) ?_ (wrapN hi hl')
          refine jeC ?_ (eQ aI hi)
          rw [cB hk]
          rfl)))
theorem uY {s:ByteArray} (hs:s.size≤1048576):WfRow T cV (bS s).1:=by
 have hp:∀ k:Int,0≤k→k≤s.size→PosIn s k:=fun k h0 h=>⟨hs,h0,h⟩
 unfold bS
 split
 · refine jau ?_
   rw [ui];exact uj _
 split
 · exact jaq (rB (pr _ _ _)) (rB (pr _ _ _))
 split
 · rename_i hb
   have hb:=bp hb
   have e:(TBO.size:Int)=6:=rfl
   have p6:PosIn s 6:=hp 6 (by decide) (by omega)
   have pb:=(px (b:=true) 0 p6).andK (valI s 0 6 true).2.2 COMMA
   have w2:=kR hs 2 (by decide) _ (andB s (valI s 0 6 true).2.1 (valI s 0 6 true).2.2 COMMA) pb.2.1 pb.2.2
   refine jap (rE p6) (w2.rows (j:=4) rfl).len fun r hr=>rA w2 hr
 · exact kR hs 3 (by decide) 0 true (jdR _) (jdk _)
theorem xk103:FOk Tryz.prog T 103 (vq cV bS) :=
 xw103 bm (fun s k b=>valI s 0 k b) (fun s k b=>valI s 2 k b) (fun s k b=>valI s 3 k b) (fun s k b h=>jb3 h) (fun s k b h=>px 0 h) (fun s k b h=>px 2 h)
  (fun s k b h=>⟨kR h.1 0 (by decide) k b h.2.1 h.2.2,u7 0 (by decide) h⟩) (fun s k b h=>⟨kR h.1 2 (by decide) k b h.2.1 h.2.2,u7 2 (by decide) h⟩) (fun s k b h=>rE h) yh
  (FOk.rd2 (ly 0 (by decide)) (ly 2 (by decide)) (ly 3 (by decide)))
theorem xv72 (n:Nat) (wh:ByteArray→Rd3) (hwf:∀ s,s.size≤1048576→WfRow T cV (wh s).1) (hwt:∀ s,s.size≤1048576→wRow (wh s).1≤WM) (hp:FOk Tryz.prog T 103 (vq cV wh)):FOk Tryz.prog T 72 (spPV cV n (fun s=>pvOf (wh s).1 ((wh s).2.2 && (wh s).2.1 == (s.size:Int)) s)):=by
 refine fok (env:=envL [(103,(vq cV wh)),(55,(spGT T cV SmM fmtO))]) (N:=37) tabT (aa hp (aa xk55 ae)) mixed Tryz.func72 rfl Tryz.call72 Tryz.ntmps72 ?_
 rintro args ⟨s,hs,hn,rfl⟩ hwf'
 clear hwf'
 have w:=hwf s hs
 have wt:=hwt s hs
 have w7:csD (rowC cV (wh s).1)=(wh s).1:=aw w
 refine ⟨by simp,?_⟩
 rw [Tryz.results72]
 repeat' first
  | refine And.intro ?_ ?_
  | (intro h;simp only [reduceCtorEq] at h;done)
  | (intro h;rw [h])
  | intro h
 all_goals first
  | (show av _=true;kernel_rfl)|(show ba _ _=true;kernel_rfl)|exact True.intro|exact Or.inr rfl|exact Or.inl rfl
  | exact rfl
  | exact ⟨_,hs,rfl⟩
  | exact ⟨_,w,wt,rfl⟩
  | exact fA (pv_1 (by rw [bi (show (!(wh s).2.2)=true by assumption)];rfl)) rfl rfl
  | (have hok:(wh s).2.2=true:=aE (by assumption)
     first
      | exact fA (pv_1 (by rw [hok,jcP (show ((wh s).2.1 != (s.size:Int))=true by assumption)];rfl)) rfl rfl
      | (have hat:((wh s).2.1 == (s.size:Int))=true:=jcQ (by assumption)
         first
          | exact fA (pv_3 (by assumption)) rfl rfl
          | (have hz:(!(fmtO (wh s).1).toList == s.toList)=true:=(by rw [← w7];assumption)
             exact fA (pv_2 hz) rfl rfl)
          | (have hz:(!(fmtO (wh s).1).toList == s.toList)=false:=(by rw [← w7];assumption)
             exact fA (pv_4 (by rw [hok,hat];rfl) hz (by assumption)) rfl rfl)))
  | skip
theorem xk72 (n:Nat):FOk Tryz.prog T 72 (spPV cV n pvI):=xv72 n bS (fun s hs=>uY hs) (fun s hs=>ym hs) xk103
end Go.Proofs.YtdkofgjbbdbglaaGreatDoor.Ab
