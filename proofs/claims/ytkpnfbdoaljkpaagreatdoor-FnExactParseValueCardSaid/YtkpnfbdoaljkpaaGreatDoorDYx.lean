/- The program's reading of lists, exactly: printed by a program of this -/
import Derived.Test.YtkpnfbdoaljkpaaGreatDoorDYw
namespace Go.Proofs.YtkpnfbdoaljkpaaGreatDoor.Ab
open Go.RowKit
set_option linter.unusedVariables false
set_option linter.unusedSimpArgs false
set_option maxRecDepth 100000
set_option maxHeartbeats 2000000
theorem xvS_111 (d:Nat) (hd:d+1≤100) (val:ByteArray→Int→Bool→Rd3) (hval:val=fun s k b=>valI s d k b) (hn:FOk Tryz.prog T 111 (spRdD [.i .i64,.i .i64,.i .i64,.s,.l 53,.l 9,.l 131] d val)):FOk Tryz.prog T 111 (spRdD [.i .i64,.i .i64,.i .i64,.s,.l 53,.l 9,.l 131] (d+1) (fun s k b=>valI s (d+1) k b)):=by
  refine fokB (env:=envL [(106,spTake),(157,spIdxB),(158,(spMkT [.i .i64,.i .i64,.i .i64,.s,.l 53,.l 9,.l 131] vTxt)),(111,(spRdD [.i .i64,.i .i64,.i .i64,.s,.l 53,.l 9,.l 131] d val)),(109,(spRd [.i .i64,.i .i64,.i .i64,.s,.l 53,.l 9,.l 131] (fun _ _ _=>True) numIR))]) (N:=94) tabT (envL_cons xk106 (envL_cons xk157 (envL_cons xk158 (envL_cons hn (envL_cons xk109 envL_nil))))) mixed Tryz.func111 rfl Tryz.call111 Tryz.ntmps111 ?_
  rintro cs args ⟨s,k,b,x,hp,rfl,he⟩ hwf
  simp only [List.cons.injEq,SV.tup.injEq,Prod.mk.injEq,true_and,and_true] at he
  obtain ⟨rfl,rfl⟩:=he
  obtain ⟨hz,h0,h1⟩:=id hp
  obtain ⟨k,rfl⟩:=Int.eq_ofNat_of_zero_le h0
  have hk:k≤s.size:=by omega
  have hcast:decide (((d+1:Nat):Int) > 0)=true:=decide_eq_true (by omega)
  refine ⟨by simp,?_⟩
  clear hwf
  rw [Tryz.results111]
  repeat' first
    | (refine And.intro ?_ ?_)
    | (intro h;exact absurd (h.symm.trans hcast) Bool.noConfusion)
    | (intro h;simp only [reduceCtorEq] at h;done)
    | (intro h;rw [h])
    | (intro h)
  all_goals first
    | (show lowEdges _=true;kernel_rfl)|(show logOk _ _=true;kernel_rfl)|exact True.intro|exact Or.inr rfl|exact Or.inl rfl
    | exact rfl
    | exact ⟨_,_,_,_,hp,by decide,rfl⟩
    | (have hq:stB s (k:Int) QUO=true:=by assumption
       obtain ⟨hK,hlt⟩:=tk_quo hq
       have hix:(Lib.indexByte (s.extract (tkK s (k:Int) QUO).toNat (s.size:Int).toNat).data.toList 34)=(if quoE s (k:Int)=s.size then -1 else (quoE s (k:Int):Int) - (k+1)):=by rw [hK];exact idx_quo hlt
       first
         | (show (0:Int)≤tkK s (k:Int) QUO;rw [hK];omega)
         | (show tkK s (k:Int) QUO≤(s.size:Int);rw [hK];omega)
         | exact Int.le_refl _
         | (refine ⟨_,?_,rfl⟩;rw [ByteArray.size_extract];omega)
         | (have hn:decide ((Lib.indexByte (s.extract (tkK s (k:Int) QUO).toNat (s.size:Int).toNat).data.toList 34) < 0)=true:=by assumption
            have hv:=vI_t1 (b:=b) hq (quo_neg hq hix hn) (d+1)
            first
              | exact resR hv rfl
              | exact updRr hv (by rw [hK];rfl) rfl)
         | (have hn:decide ((Lib.indexByte (s.extract (tkK s (k:Int) QUO).toNat (s.size:Int).toNat).data.toList 34) < 0)=false:=by assumption
            obtain ⟨hQ,hx,hge,hle⟩:=quo_pos' hq hix hn
            have hv:=vI_t2 (b:=b) hq (by rw [hQ];show ¬ (quoE s (k:Int):Int)+1 < 0;omega) (d+1)
            have hw:IntKind.i64.wrap (tkK s (k:Int) QUO+(Lib.indexByte (s.extract (tkK s (k:Int) QUO).toNat (s.size:Int).toNat).data.toList 34))=(quoE s (k:Int):Int):=by rw [hx,hK];refine (wr64 ?_ ?_).trans ?_ <;> omega
            first
              | (show tkK s (k:Int) QUO≤IntKind.i64.wrap (tkK s (k:Int) QUO+(Lib.indexByte (s.extract (tkK s (k:Int) QUO).toNat (s.size:Int).toNat).data.toList 34));rw [hw,hK];omega)
              | (show IntKind.i64.wrap (tkK s (k:Int) QUO+(Lib.indexByte (s.extract (tkK s (k:Int) QUO).toNat (s.size:Int).toNat).data.toList 34))≤(s.size:Int);rw [hw];omega)
              | exact ⟨_,rfl⟩
              | (refine resR hv ?_
                 have ht:s.extract (tkK s (k:Int) QUO).toNat (IntKind.i64.wrap (tkK s (k:Int) QUO+(Lib.indexByte (s.extract (tkK s (k:Int) QUO).toNat (s.size:Int).toNat).data.toList 34))).toNat=(quoP s (k:Int)).1:=by rw [hw,hK,hQ];rfl
                 exact congrArg (fun t=>rowC [.i .i64,.i .i64,.i .i64,.s,.l 53,.l 9,.l 131] (vTxt t)) ht)
              | (refine updRr hv ?_ rfl
                 rw [hw]
                 refine (wr64 ?_ ?_).trans ?_
                 · omega
                 · omega
                 · rw [hQ])))
    | (have hq:stB s (k:Int) QUO=false:=by assumption
       have hK:tkK s (k:Int) QUO=(k:Int):=tk_none hq
       first
         | exact ⟨_,_,_,_,hp.tk QUO,by decide,rfl⟩
         | exact ⟨_,_,_,_,(hp.tk QUO).tk LBR,by decide,rfl⟩
         | (have hl:stB s (k:Int) LBR=false:=by rw [← hK];assumption
            have hL:(tkK s (tkK s (k:Int) QUO) LBR)=(k:Int):=by rw [hK];exact tk_none hl
            have hv:=vI_n (b:=b) (d:=d) hq hl
            first
              | exact ⟨_,_,_,(hp.tk QUO).tk LBR,trivial,rfl⟩
              | exact resR hv (congrArg (fun z=>rowC [.i .i64,.i .i64,.i .i64,.s,.l 53,.l 9,.l 131] (numIR s z b).1) hL)
              | exact Eq.trans (congrArg (fun z=>rdrC s (numIR s z b).2.1 (numIR s z b).2.2) hL) (congrArg (fun r:Rd3=>rdrC s r.2.1 r.2.2) hv.symm))
         | (have hl:stB s (k:Int) LBR=true:=by rw [← hK];assumption
            have hL:(tkK s (tkK s (k:Int) QUO) LBR)=(k:Int)+1:=by rw [hK];exact tk_one hl
            have hr:stB s ((k:Int)+1) RBR=true:=by rw [← hL];assumption
            have hR:(tkK s (tkK s (tkK s (k:Int) QUO) LBR) RBR)=(k:Int)+1+1:=by rw [hL];exact tk_one hr
            have hv:=vI_e (b:=b) (d:=d) hq hl hr
            first
              | exact resR hv rfl
              | exact updRr hv hR rfl))
    | skip
  have hq:stB s (k:Int) QUO=false:=by assumption
  have hK:tkK s (k:Int) QUO=(k:Int):=tk_none hq
  have hl:stB s (k:Int) LBR=true:=by rw [← hK];assumption
  have hL:(tkK s (tkK s (k:Int) QUO) LBR)=(k:Int)+1:=by rw [hK];exact tk_one hl
  have hr:stB s ((k:Int)+1) RBR=false:=by rw [← hL];assumption
  have hR:(tkK s (tkK s (tkK s (k:Int) QUO) LBR) RBR)=(k:Int)+1:=by rw [hL];exact tk_none hr
  have hv:=vI_l (b:=b) (d:=d) hq hl hr
  have hlt:(k:Int)+1≤s.size:=stB_le hl
  have hV:(fun k b=>val s k b)=valI s d:=by rw [hval]
  have hpos:∀ j,(k:Int)+1≤j→j≤s.size→PosI s j true d (val s j true):=by
    intro j hj hs
    rw [hval]
    exact valI_pos s d j true (by omega) hs
  have hwf:∀ j,(k:Int)+1≤j→j≤s.size→WfRow T cV (val s j true).1:=by
    intro j hj hs
    rw [hval]
    exact wf_val hz d (by omega) j true (by omega) hs
  clear hval
  refine awp_loop (Q:=_) [0,1,4,7] [94,4,7] (fun m st=>∃ (j:Int) (c:Bool) (o:List (List D)),st=([.ptr 94 0 0,iArg ((d+1:Nat):Int),.ptr 4 1 0,.ptr 7 1 0],[(0,[.val false [.s s],.val false [.i .i64 j],.val false [.b c]]),(1,[.val false [.i .i64 0],.val false [.i .i64 0],.val false [.i .i64 0],.val false [.s ByteArray.empty],.val false [.sl true 53 []],.val false [.sl true 9 []],.val false [.sl true 131 []]]),(1,[.val false [.i .i64 3],.val false [.i .i64 0],.val false [.i .i64 0],.val false [.s ByteArray.empty],.val false [.sl true 53 o],.val false [.sl true 9 []],.val false [.sl true 131 []]])])∧ItI s ((k:Int)+1) j c d o∧1≤m∧(c=true→(s.size:Int) - j+2≤m)∧itemsI (fun k b=>val s k b) s m j c o=itemsI (valI s d) s (s.size+3) ((k:Int)+1) b []) ?_ ?_
  · refine ⟨rfl,s.size+3,(k:Int)+1,b,[],?_,⟨by omega,by omega,fun _=>by show ((0+0:Nat):Int)≤_;omega,by show ((0+0:Nat):Int)≤_;omega⟩,by omega,fun _=>by omega,by rw [hV]⟩
    exact congrArg (fun z:Int=>(([.ptr 94 0 0,iArg ((d+1:Nat):Int),.ptr 4 1 0,.ptr 7 1 0],[(0,[.val false [.s s],.val false [.i .i64 z],.val false [.b b]]),(1,[.val false [.i .i64 0],.val false [.i .i64 0],.val false [.i .i64 0],.val false [.s ByteArray.empty],.val false [.sl true 53 []],.val false [.sl true 9 []],.val false [.sl true 131 []]]),(1,[.val false [.i .i64 3],.val false [.i .i64 0],.val false [.i .i64 0],.val false [.s ByteArray.empty],.val false [.sl true 53 []],.val false [.sl true 9 []],.val false [.sl true 131 []]])]):Snap)) hR
  rintro m st ⟨j,c,o,rfl,hI,h1m,hm,hE⟩
  have hlen:o.length≤4194304:=by have:=hI.2.2.2;have:=hI.2.1;omega
  cases c with
  | false =>
    rw [itI_stop] at hE
    repeat' first
      | (refine And.intro ?_ ?_)
      | (intro h;simp only [reduceCtorEq] at h;done)
      | (intro h;rw [h])
      | (intro h)
    all_goals first
      | (show lowEdges _=true;kernel_rfl)|(show logOk _ _=true;kernel_rfl)|exact True.intro|exact Or.inr rfl|exact Or.inl rfl
      | (refine resR hv ?_;rw [← hE];rfl)
      | (refine updRr hv ?_ ?_ <;> rw [← hE])
      | exact absurd (by assumption:false=true) Bool.noConfusion
      | skip
  | true =>
  obtain ⟨m,rfl⟩:∃ m',m=m' + 1:=⟨m - 1,by omega⟩
  have pj:PosIn s j:=⟨hz,by have:=hI.1;omega,hI.2.1⟩
  have pv:=hpos j hI.1 hI.2.1
  have w7:csD (rowC [.i .i64,.i .i64,.i .i64,.s,.l 53,.l 9,.l 131] (val s j true).1)=(val s j true).1:=csD_rowC (hwf j hI.1 hI.2.1)
  have pv2:PosIn s (val s j true).2.1:=pv.in_ pj
  have hmm:=hm rfl
  repeat' first
    | (refine And.intro ?_ ?_)
    | (intro h;simp only [reduceCtorEq] at h;done)
    | (intro h;rw [h])
    | (intro h)
  all_goals first
    | (show lowEdges _=true;kernel_rfl)|(show logOk _ _=true;kernel_rfl)|exact True.intro|exact Or.inr rfl|exact Or.inl rfl
    | exact rfl
    | exact absurd (by assumption:true=false) Bool.noConfusion
    | (refine ⟨_,_,_,_,pj,?_,rfl⟩;refine (wr64 ?_ ?_).trans ?_ <;> omega)
    | exact ⟨_,_,_,_,pv2,by decide,rfl⟩
    | exact ⟨_,_,_,_,pv2.tk RBR,by decide,rfl⟩
    | (show o.length+1≤maxLen;simp only [maxLen];omega)
    | (show (o.length+1) * 112≤_;omega)
    | (have hs:stB s (val s j true).2.1 RBR=true:=by assumption
       have hE2:=hE.symm.trans (itI_1 (val:=fun k b=>val s k b) hs)
       have hT:tkK s (val s j true).2.1 RBR=(val s j true).2.1+1:=tk_one hs
       first
         | (refine resR hv ?_
            rw [hE2]
            show _=rowC [.i .i64,.i .i64,.i .i64,.s,.l 53,.l 9,.l 131] (vLst (o++[(val s j true).1]))
            exact congrArg (fun r=>rowC [.i .i64,.i .i64,.i .i64,.s,.l 53,.l 9,.l 131] (vLst (o++[r]))) w7)
         | (refine updRr hv ?_ ?_
            · rw [hE2,hT]
            · rw [hE2]))
    | (have hs:stB s (val s j true).2.1 RBR=false:=by assumption
       have hT:tkK s (val s j true).2.1 RBR=(val s j true).2.1:=tk_none hs
       first
         | (show Alive _ _;exact rfl)
         | (refine ⟨m,Nat.lt_succ_self _,andK s (val s j true).2.1 (val s j true).2.2 COMMA,andB s (val s j true).2.1 (val s j true).2.2 COMMA,o++[(val s j true).1],?_,itI_next hI pv,?_,?_,(itI_2 (val:=fun k b=>val s k b) hs).symm.trans hE⟩
            · refine snapKBO (f:=fun z y r=>(([.ptr 94 0 0,iArg ((d+1:Nat):Int),.ptr 4 1 0,.ptr 7 1 0],[(0,[.val false [.s s],.val false [.i .i64 z],.val false [.b y]]),(1,[.val false [.i .i64 0],.val false [.i .i64 0],.val false [.i .i64 0],.val false [.s ByteArray.empty],.val false [.sl true 53 []],.val false [.sl true 9 []],.val false [.sl true 131 []]]),(1,[.val false [.i .i64 3],.val false [.i .i64 0],.val false [.i .i64 0],.val false [.s ByteArray.empty],.val false [.sl true 53 r],.val false [.sl true 9 []],.val false [.sl true 131 []]])]):Snap)) ?_ ?_ (congrArg (fun r=>o++[r]) w7)
              · first
                  | exact (congrArg (fun z=>tkK s z COMMA) hT).trans (andK_T (by assumption))
                  | exact hT.trans (andK_F (by assumption))
              · first
                  | exact (congrArg (fun z=>stB s z COMMA) hT).trans (andB_1 (by assumption))
                  | exact andB_2 (by assumption)
            · have:=pv.2.1;have:=pv.1;omega
            · intro hc
              obtain ⟨c1,c2,c3⟩:=andB_T hc
              have e:(COMMA.size:Int)=2:=rfl
              have:=(pv.2.2.1 c1).2.1
              have:=pv.2.1
              rw [c3,e]
              omega))
    | skip
theorem xval111:∀ d,d≤100→FOk Tryz.prog T 111 (spRdD [.i .i64,.i .i64,.i .i64,.s,.l 53,.l 9,.l 131] d (fun s k b=>valI s d k b))
  | 0,_=>xv0_111
  | d+1,h=>xvS_111 d h (fun s k b=>valI s d k b) rfl (xval111 d (by omega))
end Go.Proofs.YtkpnfbdoaljkpaaGreatDoor.Ab
