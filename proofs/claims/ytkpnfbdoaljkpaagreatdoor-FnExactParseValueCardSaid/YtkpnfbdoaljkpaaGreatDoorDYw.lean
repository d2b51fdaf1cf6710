/- The program's reading of values, exactly: printed by a program of this -/
import Derived.Test.YtkpnfbdoaljkpaaGreatDoorDYu
import Derived.Test.YtkpnfbdoaljkpaaGreatDoorDYv
namespace Go.Proofs.YtkpnfbdoaljkpaaGreatDoor.Ab
open Go.RowKit
set_option linter.unusedVariables false
set_option linter.unusedSimpArgs false
set_option maxRecDepth 100000
set_option maxHeartbeats 2000000
theorem wf_num (s:ByteArray) (k:Int) (b:Bool):WfRow T cV (numIR s k b).1:=by
  refine wfNum ?_
  have e1:IntKind.i64.min = -9223372036854775808:=by decide
  have e2:IntKind.i64.max=9223372036854775807:=by decide
  have:-999999999999≤(prsI s k).1∧(prsI s k).1≤999999999999:=prs_in (lo:=-999999999999) (hi:=999999999999) (s:=s.extract k.toNat (numIE s k)) (by decide) (by decide)
  rw [inK,e1,e2]
  omega
theorem wf_txt {s:ByteArray} {k:Int} (hs:s.size≤1048576) (h0:0≤k) (h:k≤s.size) (b:Bool):WfRow T cV (if (quoP s k).2 < 0 then ((vNil,k+1,false):Rd3) else (vTxt (quoP s k).1,(quoP s k).2,b)).1:=by
  split
  · exact wfNil
  · refine wfTxt ?_
    rcases quoP_pos h0 h with ⟨h1,h2⟩|⟨h1,h2,h3⟩
    · rw [h2];decide
    · simp only [maxLen];omega
theorem wf_itI {val:Int→Bool→Rd3} {s:ByteArray} {k0:Int} {d:Nat} (hv:∀ k,k0≤k→k≤s.size→PosI s k true d (val k true)) (hw:∀ k,k0≤k→k≤s.size→WfRow T cV (val k true).1):∀ (m:Nat) (k:Int) (b:Bool) (out:List (List D)),ItI s k0 k b d out→(∀ r ∈ out,WfRow T cV r) →
    ∀ r ∈ (itemsI val s m k b out).1,WfRow T cV r
  | 0,_,_,_,_,ho=>ho
  | m+1,k,false,out,_,ho=>ho
  | m+1,k,true,out,h,ho=>by
    have hr:=hv k h.1 h.2.1
    have w:=hw k h.1 h.2.1
    have ho' : ∀ r ∈ out++[(val k true).1],WfRow T cV r:=by
      intro r hr
      rcases List.mem_append.1 hr with h|h
      · exact ho r h
      · rw [List.mem_singleton.1 h];exact w
    rw [itemsI,if_neg (by decide)]
    split
    · exact ho'
    · exact wf_itI hv hw m _ _ _ (itI_next h hr) ho'
theorem wf_val {s:ByteArray} (hs:s.size≤1048576):∀ (d:Nat),d≤100→∀ (k:Int) (b:Bool),0≤k→k≤s.size→WfRow T cV (valI s d k b).1
  | 0,_,k,b,h0,h=>by
    unfold valI
    split
    · exact wf_txt hs h0 h b
    · exact wf_num s k b
  | d+1,hd,k,b,h0,h=>by
    unfold valI
    split
    · exact wf_txt hs h0 h b
    split
    · rename_i _ hl
      have hb:=stB_le hl
      have e:(LBR.size:Int)=1:=rfl
      split
      · exact wfLst (by decide) (fun r hr=>absurd hr (List.not_mem_nil))
      · have i0:ItI s (k+1) (k+1) b d []:=⟨by omega,by omega,fun _=>by show ((0+0:Nat):Int)≤_;omega,by show ((0+0:Nat):Int)≤_;omega⟩
        have hi:=(itemsI_pos (val:=valI s d) (s:=s) (k0:=k+1) (d:=d) (fun j hj hs=>valI_pos s d j true (by omega) hs) (s.size+3) (k+1) b [] i0).1
        have hw:=wf_itI (val:=valI s d) (s:=s) (k0:=k+1) (d:=d) (fun j hj hs=>valI_pos s d j true (by omega) hs) (fun j hj h2=>wf_val hs d (by omega) j true (by omega) h2) (s.size+3) (k+1) b [] i0 (fun r hr=>absurd hr (List.not_mem_nil))
        refine wfLst ?_ hw
        have:=hi.2.2.2
        have:=hi.2.1
        simp only [maxLen]
        omega
    · exact wf_num s k b
theorem xfalse:FOk Tryz.prog T 111 { pre:=fun _=>False,res:=fun _=>.none,bx:=true }:=by
  refine fokB (env:=envL []) (N:=94) tabT envL_nil mixed Tryz.func111 rfl Tryz.call111 Tryz.ntmps111 ?_
  exact fun cs args h=>h.elim
theorem xv0_111:FOk Tryz.prog T 111 (spRdD [.i .i64,.i .i64,.i .i64,.s,.l 53,.l 9,.l 131] 0 (fun s k b=>valI s 0 k b)):=by
  refine fokB (env:=envL [(106,spTake),(157,spIdxB),(158,(spMkT [.i .i64,.i .i64,.i .i64,.s,.l 53,.l 9,.l 131] vTxt)),(111, { pre:=fun _=>False,res:=fun _=>.none,bx:=true }),(109,(spRd [.i .i64,.i .i64,.i .i64,.s,.l 53,.l 9,.l 131] (fun _ _ _=>True) numIR))]) (N:=94) tabT (envL_cons xk106 (envL_cons xk157 (envL_cons xk158 (envL_cons xfalse (envL_cons xk109 envL_nil))))) mixed Tryz.func111 rfl Tryz.call111 Tryz.ntmps111 ?_
  rintro cs args ⟨s,k,b,x,hp,rfl,he⟩ hwf
  simp only [List.cons.injEq,SV.tup.injEq,Prod.mk.injEq,true_and,and_true] at he
  obtain ⟨rfl,rfl⟩:=he
  obtain ⟨hz,h0,h1⟩:=id hp
  obtain ⟨k,rfl⟩:=Int.eq_ofNat_of_zero_le h0
  have hk:k≤s.size:=by omega
  refine ⟨by simp,?_⟩
  clear hwf
  rw [Tryz.results111]
  repeat' first
    | (refine And.intro ?_ ?_)
    | (intro h;simp only [reduceCtorEq] at h;done)
    | (intro h;rw [h])
    | (intro h)
  all_goals first
    | (show lowEdges _=true;kernel_rfl)|(show logOk _ _=true;kernel_rfl)|exact True.intro|exact Or.inr rfl|exact Or.inl rfl
    | exact ⟨_,_,_,_,hp,by decide,rfl⟩
    | (have hq:stB s (k:Int) QUO=true:=by assumption
       obtain ⟨hK,hlt⟩:=tk_quo hq
       have hix:(Lib.indexByte (s.extract (tkK s (k:Int) QUO).toNat (s.size:Int).toNat).data.toList 34)=(if quoE s (k:Int)=s.size then -1 else (quoE s (k:Int):Int) - (k+1)):=by rw [hK];exact idx_quo hlt
       first
         | (show (0:Int)≤tkK s (k:Int) QUO;rw [hK];omega)
         | (show tkK s (k:Int) QUO≤(s.size:Int);rw [hK];omega)
         | exact Int.le_refl _
         | (refine ⟨_,?_,rfl⟩;rw [ByteArray.size_extract];omega)
         | (have hn:decide ((Lib.indexByte (s.extract (tkK s (k:Int) QUO).toNat (s.size:Int).toNat).data.toList 34) < 0)=true:=by assumption
            have hv:=vI_t1 (b:=b) hq (quo_neg hq hix hn) 0
            first
              | exact resR hv rfl
              | exact updRr hv (by rw [hK];rfl) rfl)
         | (have hn:decide ((Lib.indexByte (s.extract (tkK s (k:Int) QUO).toNat (s.size:Int).toNat).data.toList 34) < 0)=false:=by assumption
            obtain ⟨hQ,hx,hge,hle⟩:=quo_pos' hq hix hn
            have hv:=vI_t2 (b:=b) hq (by rw [hQ];show ¬ (quoE s (k:Int):Int)+1 < 0;omega) 0
            have hw:IntKind.i64.wrap (tkK s (k:Int) QUO+(Lib.indexByte (s.extract (tkK s (k:Int) QUO).toNat (s.size:Int).toNat).data.toList 34))=(quoE s (k:Int):Int):=by rw [hx,hK];refine (wr64 ?_ ?_).trans ?_ <;> omega
            first
              | (show tkK s (k:Int) QUO≤IntKind.i64.wrap (tkK s (k:Int) QUO+(Lib.indexByte (s.extract (tkK s (k:Int) QUO).toNat (s.size:Int).toNat).data.toList 34));rw [hw,hK];omega)
              | (show IntKind.i64.wrap (tkK s (k:Int) QUO+(Lib.indexByte (s.extract (tkK s (k:Int) QUO).toNat (s.size:Int).toNat).data.toList 34))≤(s.size:Int);rw [hw];omega)
              | exact ⟨_,rfl⟩
              | (refine resR hv ?_
                 have ht:s.extract (tkK s (k:Int) QUO).toNat (IntKind.i64.wrap (tkK s (k:Int) QUO+(Lib.indexByte (s.extract (tkK s (k:Int) QUO).toNat (s.size:Int).toNat).data.toList 34))).toNat=(quoP s (k:Int)).1:=by rw [hw,hK,hQ];rfl
                 exact congrArg (fun t=>rowC [.i .i64,.i .i64,.i .i64,.s,.l 53,.l 9,.l 131] (vTxt t)) ht)
              | (refine updRr hv ?_ rfl
                 rw [hw]
                 refine (wr64 ?_ ?_).trans ?_
                 · omega
                 · omega
                 · rw [hQ])))
    | (have hq:stB s (k:Int) QUO=false:=by assumption
       have hK:tkK s (k:Int) QUO=(k:Int):=tk_none hq
       first
         | exact absurd (by assumption:decide (((0:Nat):Int) > 0)=true) (by decide)
         | exact ⟨_,_,_,hp.tk QUO,trivial,rfl⟩
         | exact rfl
         | exact resR (vI_n0 hq) (congrArg (fun z=>rowC [.i .i64,.i .i64,.i .i64,.s,.l 53,.l 9,.l 131] (numIR s z b).1) hK)
         | exact Eq.trans (congrArg (fun z=>rdrC s (numIR s z b).2.1 (numIR s z b).2.2) hK) (congrArg (fun r:Rd3=>rdrC s r.2.1 r.2.2) (vI_n0 hq).symm))
    | exact rfl
    | skip
end Go.Proofs.YtkpnfbdoaljkpaaGreatDoor.Ab
