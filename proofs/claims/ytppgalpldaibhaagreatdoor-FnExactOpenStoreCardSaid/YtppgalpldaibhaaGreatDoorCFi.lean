/- Operations checked: printed by a program of this claim. And what belongs to it. -/
import Derived.Test.YtppgalpldaibhaaGreatDoorCFe
import Derived.Test.YtppgalpldaibhaaGreatDoorCFh
namespace Go.Proofs.YtppgalpldaibhaaGreatDoor.Ab
open Go.RowKit
set_option linter.unusedVariables false
set_option linter.unusedSimpArgs false
set_option maxRecDepth 100000
set_option maxHeartbeats 1000000
theorem ok256:FOk Tryz.prog T 256 spSeen:=by
  refine fok (env:=envL [(84,spIn)]) (N:=19) tabT (envL_cons ok84 envL_nil) mixed Tryz.func256 rfl Tryz.call256 Tryz.ntmps256 ?_
  rintro args ⟨a,rfl⟩ hwf
  have wa:WfD T (.l 3) (.l a):=arg0 hwf (List.mem_singleton_self _)
  have la:=wa.len
  clear hwf
  refine ⟨by simp,?_⟩
  rw [Tryz.results256]
  repeat' first
    | (refine And.intro ?_ ?_)
    | (intro h;cases h)
    | (intro h;rw [h])
    | (intro h)
  all_goals first
    | (show lowEdges _=true;kernel_rfl)|(show logOk _ _=true;kernel_rfl)|exact True.intro|exact rfl|exact Or.inr rfl|exact Or.inl rfl
    | skip
  refine awp_loop (Q:=_) [0,3] [] (fun n q=>∃ i:Int,q=([argS 3 a,.val false [.i .i64 i]],[])∧0≤i∧i≤a.length∧n=a.length - i.toNat∧(a.take i.toNat).all (fun r=>inR (intOf r) 0 60)=true) ?_ ?_
  · exact ⟨rfl,a.length - 0,0,rfl,by omega,by omega,rfl,rfl⟩
  rintro n q ⟨i,rfl,h1,h2,h3,h4⟩
  repeat' first
    | (refine And.intro ?_ ?_)
    | (intro h;cases h)
    | (intro h;rw [h])
    | (intro h)
  all_goals first
    | (show lowEdges _=true;kernel_rfl)|(show logOk _ _=true;kernel_rfl)|exact True.intro|exact rfl|exact Or.inr rfl|exact Or.inl rfl
    | omega
    | exact of_decide_eq_true ‹_›
    | exact ⟨_,_,_,rfl⟩
    | (have hA:=all_end h1 h2 ‹_› h4
       refine resB ?_
       simp only [seenB,hA,Bool.true_and]
       rw [Bool.eq_iff_iff]
       simp
       omega)
    | (have hi:i < (a.length:Int):=of_decide_eq_true ‹decide (i < (a.length:Int))=true›
       first
         | (have hA:=all_stop (p:=fun r=>inR (intOf r) 0 60) h1 hi (by simpa using ‹(!inR _ 0 60)=true›)
            exact resB (by simp [seenB,hA]))
         | exact ⟨a.length - (i+1).toNat,by omega,i+1,congrArg (fun z:Int=>(([argS 3 a,.val false [.i .i64 z]],[]):Snap)) (wrap_next h1 hi la),by omega,by omega,rfl,all_next h1 hi h4 (by simpa using ‹(!inR _ 0 60)=false›)⟩)
theorem ok208:FOk Tryz.prog T 208 (spOp T [.i .i64,.i .i64,.i .i64,.l 3,.i .i64,.i .i64,.i .i64,.i .i64,.i .i64,.s,.s,.i .i64,.s,.s,.i .i64,.i .i64,.l 118]):=by
  refine fok (env:=envL [(84,spIn),(256,spSeen)]) (N:=72) tabT (envL_cons ok84 (envL_cons ok256 envL_nil)) mixed Tryz.func208 rfl Tryz.call208 Tryz.ntmps208 ?_
  rintro args ⟨a,wa,rfl⟩ hwf
  refine ⟨by simp,?_⟩
  rw [Tryz.results208]
  clear hwf
  repeat' first
    | (refine And.intro ?_ ?_)
    | (intro h;cases h)
    | (intro h;rw [h])
    | (intro h)
  all_goals first
    | (show lowEdges _=true;kernel_rfl)|(show logOk _ _=true;kernel_rfl)|exact True.intro|exact rfl|exact Or.inr rfl|exact Or.inl rfl
    | exact ⟨_,rfl⟩
    | exact ⟨_,_,_,rfl⟩
    | (refine resB (Eq.trans ?_ (okOp_rowC wa).symm);clear wa;simp_all [okOp,noEdit,noNames,noTape,eqDs,eqD,inR];done)
    | (refine resB (Eq.trans ?_ (okOp_rowC wa).symm);clear wa;simp_all [okOp,noEdit,noNames,noTape,eqDs,eqD,inR];omega)
    | (refine resB (Eq.trans ?_ (okOp_rowC wa).symm);clear wa;simp_all [okOp,noEdit,noNames,noTape,eqDs,eqD,inR];done)
theorem hEmp:ByteArray.empty.toList=(⟨#[]⟩:ByteArray).toList:=rfl
theorem ok119:FOk Tryz.prog T 119 (spOp T [.i .i64,.i .i64,.i .i64,.l 3,.i .i64,.i .i64,.i .i64,.i .i64,.i .i64,.s,.s,.i .i64,.s,.s,.i .i64,.i .i64,.l 118]):=by
  refine fok (env:=envL [(132,spIn)]) (N:=81) tabT (envL_cons ok132 envL_nil) mixed Tryz.func119 rfl Tryz.call119 Tryz.ntmps119 ?_
  rintro args ⟨a,wa,rfl⟩ hwf
  have wS:WfD T (.l 3) (.l (a.getD 3 default).rows):=wa.rows (j:=3) rfl
  have la:=wS.len
  refine ⟨by simp,?_⟩
  rw [Tryz.results119]
  clear hwf
  have hok:=okOp_rowC wa
  repeat' first
    | (refine And.intro ?_ ?_)
    | (intro h;cases h)
    | (intro h;rw [h])
    | (intro h)
  all_goals first
    | (show lowEdges _=true;kernel_rfl)|(show logOk _ _=true;kernel_rfl)|exact True.intro|exact rfl|exact Or.inr rfl|exact Or.inl rfl
    | exact ⟨_,rfl⟩
    | exact ⟨_,_,_,rfl⟩
    | (refine resB (Eq.trans ?_ hok.symm);simp_all [okOp,seenB];done)
    | (have hh:¬ (a.getD 3 default).rows.length=3:=fun hc=>by
         have hd:((((a.getD 3 default).rows.length:Int) != 3))=true:=‹_›
         rw [hc] at hd
         exact absurd hd (by decide)
       refine resB (Eq.trans ?_ hok.symm)
       have hs:seenB (a.getD 3 default).rows=false:=by unfold seenB;rw [decide_eq_false hh,Bool.and_false]
       unfold okOp
       rw [hs]
       simp)
    | skip
  have hl:((a.getD 3 default).rows.length:Int)=3:=by simpa using ‹((((a.getD 3 default).rows.length:Int) != 3))=false›
  refine awp_loop (Q:=_) [25,26,27,1] [1] (fun n q=>∃ i:Int,q=([argS 3 (a.getD 3 default).rows,.val false [.i .i64 ((a.getD 3 default).rows.length:Int)],.val false [.i .i64 i],.ptr 1 1 0],[(1,(rowC [.i .i64,.i .i64,.i .i64,.l 3,.i .i64,.i .i64,.i .i64,.i .i64,.i .i64,.s,.s,.i .i64,.s,.s,.i .i64,.i .i64,.l 118] a).map fun c=>.val false [c])])∧0≤i∧i≤(a.getD 3 default).rows.length∧n=(a.getD 3 default).rows.length - i.toNat∧((a.getD 3 default).rows.take i.toNat).all (fun r=>inR (intOf r) 0 60)=true) ?_ ?_
  · exact ⟨rfl,(a.getD 3 default).rows.length - 0,0,rfl,by omega,by omega,rfl,rfl⟩
  rintro n q ⟨i,rfl,h1,h2,h3,h4⟩
  repeat' first
    | (refine And.intro ?_ ?_)
    | (intro h;cases h)
    | (intro h;rw [h])
    | (intro h)
  all_goals first
    | (show lowEdges _=true;kernel_rfl)|(show logOk _ _=true;kernel_rfl)|exact True.intro|exact rfl|exact Or.inr rfl|exact Or.inl rfl
    | omega
    | exact of_decide_eq_true ‹_›
    | exact ⟨_,_,_,rfl⟩
    | (have hi:i < ((a.getD 3 default).rows.length:Int):=of_decide_eq_true ‹decide (i < ((a.getD 3 default).rows.length:Int))=true›
       first
         | (have hA:=all_stop (p:=fun r=>inR (intOf r) 0 60) h1 hi (by simpa using ‹(!inR _ 0 60)=true›)
            refine resB (Eq.trans ?_ hok.symm)
            have hs:seenB (a.getD 3 default).rows=false:=by unfold seenB;rw [hA,Bool.false_and]
            unfold okOp
            rw [hs]
            simp)
         | exact ⟨(a.getD 3 default).rows.length - (i+1).toNat,by omega,i+1,congrArg (fun z:Int=>(([argS 3 (a.getD 3 default).rows,.val false [.i .i64 ((a.getD 3 default).rows.length:Int)],.val false [.i .i64 z],.ptr 1 1 0],[(1,(rowC [.i .i64,.i .i64,.i .i64,.l 3,.i .i64,.i .i64,.i .i64,.i .i64,.i .i64,.s,.s,.i .i64,.s,.s,.i .i64,.i .i64,.l 118] a).map fun c=>.val false [c])]):Snap)) (wrap_next h1 hi la),by omega,by omega,rfl,all_next h1 hi h4 (by simpa using ‹(!inR _ 0 60)=false›)⟩)
    | (have hs:seenB (a.getD 3 default).rows=true:=by
         have hA:=all_end h1 h2 (by assumption) h4
         unfold seenB
         rw [hA,decide_eq_true (by omega)]
         rfl
       refine resB (Eq.trans ?_ hok.symm)
       clear hok wa wS h4
       simp only [Nat.reduceAdd] at *
       unfold okOp
       rw [hs]
       first
         | (simp_all [noEdit,noNames,noTape,eqDs,eqD,inR,hEmp];done)
         | (simp_all [noEdit,noNames,noTape,eqDs,eqD,inR,hEmp];omega))
theorem ok139:FOk Tryz.prog T 139 (spNums T [.i .i64,.i .i64,.i .i64,.l 3,.i .i64,.i .i64,.i .i64,.i .i64,.i .i64,.s,.s,.i .i64,.s,.s,.i .i64,.i .i64,.l 118]):=by
  refine fok (env:=envL []) (N:=40) tabT envL_nil mixed Tryz.func139 rfl Tryz.call139 Tryz.ntmps139 ?_
  rintro args ⟨a,wa,hs,rfl⟩ hwf
  have h1:=hs.1
  have hl:=opNums_length a
  refine ⟨by simp,?_⟩
  rw [Tryz.results139]
  clear hwf
  have hok:opNums (csD (rowC [.i .i64,.i .i64,.i .i64,.l 3,.i .i64,.i .i64,.i .i64,.i .i64,.i .i64,.s,.s,.i .i64,.s,.s,.i .i64,.i .i64,.l 118] a))=opNums a:=by rw [csD_rowC wa]
  repeat' first
    | (refine And.intro ?_ ?_)
    | (intro h;cases h)
    | (intro h;rw [h])
    | (intro h)
  all_goals first
    | (show lowEdges _=true;kernel_rfl)|(show logOk _ _=true;kernel_rfl)|exact True.intro|exact rfl|exact Or.inr rfl|exact Or.inl rfl
    | (show 3+(a.getD 3 default).rows.length≤maxLen;simp only [maxLen];omega)
    | (show (3+(a.getD 3 default).rows.length) * 8≤140737488355328;omega)
    | (rw [List.length_append];show 3+(a.getD 3 default).rows.length+6≤maxLen;simp only [maxLen];omega)
    | (rw [List.length_append];show (3+(a.getD 3 default).rows.length+6) * 8≤140737488355328;omega)
    | exact congrArg (fun z=>[CV.sl true 3 z]) hok.symm
theorem badRd {r:List D} (wr:WfRow T [.i .i64,.i .i64,.i .i64,.s,.i .i64,.i .i64,.i .i64,.s,.l 33,.l 9,.l 91] r) (hl:(r.getD 9 default).rows.length+(r.getD 10 default).rows.length≤2097152) (h:(!g23 [argG [.i .i64,.i .i64,.i .i64,.s,.l 33,.l 9,.l 91] (sub r 4 7)])=true):goodRd r=false:=by
  by_cases hk:(r.getD 4 default).int=1∨(r.getD 4 default).int=6
  · have hv:=val23 _ ⟨sub r 4 7,wr.sub 4 7 (by decide),Nat.le_trans hl (by decide),hk,rfl⟩
    have he:svOk [argG [.i .i64,.i .i64,.i .i64,.s,.l 33,.l 9,.l 91] (sub r 4 7)]=okVal (sub r 4 7):=congrArg okVal (csD_rowC (wr.sub 4 7 (by decide)))
    rw [hv,he] at h
    unfold goodRd
    rw [show okVal (sub r 4 7)=false by simpa using h,Bool.and_false]
  · unfold goodRd
    have h1:((r.getD 4 default).int == 1)=false:=by simp only [beq_eq_false_iff_ne,ne_eq];exact fun h=>hk (.inl h)
    have h6:((r.getD 4 default).int == 6)=false:=by simp only [beq_eq_false_iff_ne,ne_eq];exact fun h=>hk (.inr h)
    rw [h1,h6]
    rfl
theorem goodRd_of {r:List D} (wr:WfRow T [.i .i64,.i .i64,.i .i64,.s,.i .i64,.i .i64,.i .i64,.s,.l 33,.l 9,.l 91] r) (hl:(r.getD 9 default).rows.length+(r.getD 10 default).rows.length≤2097152) (h:(!g23 [argG [.i .i64,.i .i64,.i .i64,.s,.l 33,.l 9,.l 91] (sub r 4 7)])=false) (hk:(r.getD 4 default).int=1∨(r.getD 4 default).int=6):goodRd r=true:=by
  have hv:=val23 _ ⟨sub r 4 7,wr.sub 4 7 (by decide),Nat.le_trans hl (by decide),hk,rfl⟩
  have he:svOk [argG [.i .i64,.i .i64,.i .i64,.s,.l 33,.l 9,.l 91] (sub r 4 7)]=okVal (sub r 4 7):=congrArg okVal (csD_rowC (wr.sub 4 7 (by decide)))
  rw [hv,he] at h
  unfold goodRd
  rw [show okVal (sub r 4 7)=true by simpa using h,Bool.and_true]
  rcases hk with h1|h6
  · rw [h1];rfl
  · rw [h6];rfl
theorem goodRd_no {r:List D} (h1:((r.getD 4 default).int != 1)=true) (h6:((r.getD 4 default).int != 6)=true):goodRd r=false:=by
  unfold goodRd
  have h1:((r.getD 4 default).int == 1)=false:=by simpa using h1
  have h6:((r.getD 4 default).int == 6)=false:=by simpa using h6
  rw [h1,h6]
  rfl
theorem ok138:FOk Tryz.prog T 138 (spGood T [.i .i64,.i .i64,.i .i64,.l 3,.i .i64,.i .i64,.i .i64,.i .i64,.i .i64,.s,.s,.i .i64,.s,.s,.i .i64,.i .i64,.l 118]):=by
  refine fok (env:=envL [(139,(spNums T [.i .i64,.i .i64,.i .i64,.l 3,.i .i64,.i .i64,.i .i64,.i .i64,.i .i64,.s,.s,.i .i64,.s,.s,.i .i64,.i .i64,.l 118])),(23,sp23),(80,spNum),(208,(spOp T [.i .i64,.i .i64,.i .i64,.l 3,.i .i64,.i .i64,.i .i64,.i .i64,.i .i64,.s,.s,.i .i64,.s,.s,.i .i64,.i .i64,.l 118]))]) (N:=66) tabT (envL_cons ok139 (envL_cons ok23 (envL_cons ok80 (envL_cons ok208 envL_nil)))) mixed Tryz.func138 rfl Tryz.call138 Tryz.ntmps138 ?_
  rintro args ⟨a,wa,hs,rfl⟩ hwf
  have hs1:=hs.1
  have hs2:=hs.2.1
  have hs4:=hs.2.2.2
  have hl:=opNums_length a
  have wR:WfD T (.l 118) (.l (rds a)):=wa.rows (j:=16) rfl
  have lr:=wR.len
  refine ⟨by simp,?_⟩
  rw [Tryz.results138]
  clear hwf
  have hrow:csD (rowC [.i .i64,.i .i64,.i .i64,.l 3,.i .i64,.i .i64,.i .i64,.i .i64,.i .i64,.s,.s,.i .i64,.s,.s,.i .i64,.i .i64,.l 118] a)=a:=csD_rowC wa
  have hok:goodOp (csD (rowC [.i .i64,.i .i64,.i .i64,.l 3,.i .i64,.i .i64,.i .i64,.i .i64,.i .i64,.s,.s,.i .i64,.s,.s,.i .i64,.i .i64,.l 118] a))=goodOp a:=by rw [csD_rowC wa]
  repeat' first
    | (refine And.intro ?_ ?_)
    | (intro h;cases h)
    | (intro h;rw [h])
    | (intro h)
  all_goals first
    | (show lowEdges _=true;kernel_rfl)|(show logOk _ _=true;kernel_rfl)|exact True.intro|exact rfl|exact Or.inr rfl|exact Or.inl rfl
    | exact ⟨a,wa,hs,rfl⟩
    | (show (opNums (csD (rowC [.i .i64,.i .i64,.i .i64,.l 3,.i .i64,.i .i64,.i .i64,.i .i64,.i .i64,.s,.s,.i .i64,.s,.s,.i .i64,.i .i64,.l 118] a))).length+2≤maxLen;rw [hrow];simp only [maxLen];omega)
    | (show ((opNums (csD (rowC [.i .i64,.i .i64,.i .i64,.l 3,.i .i64,.i .i64,.i .i64,.i .i64,.i .i64,.s,.s,.i .i64,.s,.s,.i .i64,.i .i64,.l 118] a))).length+2) * 8≤140737488355328;rw [hrow];omega)
    | skip
  refine awp_loop (Q:=_) [1,3,4] [1] (fun n q=>∃ i:Int,q=([.ptr 1 1 0,.val false [.sl true 3 (opNumsTo a i.toNat)],.val false [.i .i64 i]],[(1,(rowC [.i .i64,.i .i64,.i .i64,.l 3,.i .i64,.i .i64,.i .i64,.i .i64,.i .i64,.s,.s,.i .i64,.s,.s,.i .i64,.i .i64,.l 118] a).map fun c=>.val false [c])])∧0≤i∧i≤(rds a).length∧n=(rds a).length - i.toNat∧((rds a).take i.toNat).all goodRd=true) ?_ ?_
  · refine ⟨rfl,(rds a).length - 0,0,?_,by omega,by omega,rfl,rfl⟩
    have:opNumsTo a (0:Int).toNat=opNums (csD (rowC [.i .i64,.i .i64,.i .i64,.l 3,.i .i64,.i .i64,.i .i64,.i .i64,.i .i64,.s,.s,.i .i64,.s,.s,.i .i64,.i .i64,.l 118] a))++ints a [14,15]:=by rw [hrow];simp [opNumsTo]
    rw [this]
    rfl
  rintro n q ⟨i,rfl,h1,h2,h3,h4⟩
  have hli:=opNumsTo_length (a:=a) (i:=i.toNat) (by omega)
  repeat' first
    | (refine And.intro ?_ ?_)
    | (intro h;cases h)
    | (intro h;rw [h])
    | (intro h)
  all_goals first
    | (show lowEdges _=true;kernel_rfl)|(show logOk _ _=true;kernel_rfl)|exact True.intro|exact rfl|exact Or.inr rfl|exact Or.inl rfl
    | omega
    | exact of_decide_eq_true ‹_›
    | (have hi:i < ((rds a).length:Int):=of_decide_eq_true ‹decide (i < ((rds a).length:Int))=true›
       have wr:WfRow T [.i .i64,.i .i64,.i .i64,.s,.i .i64,.i .i64,.i .i64,.s,.l 33,.l 9,.l 91] ((rds a).getD i.toNat []):=wR.row rfl (by omega)
       have hb:=(hs4 i.toNat (by omega)).2
       first
         | exact ⟨_,wr.sub 4 7 (by decide),rfl⟩
         | (show (opNumsTo a i.toNat).length+3≤maxLen;simp only [maxLen];omega)
         | (show ((opNumsTo a i.toNat).length+3) * 8≤140737488355328;omega)
         | (refine resB (Eq.trans ?_ hok.symm)
            have hbad:goodRd ((rds a).getD i.toNat [])=false:=by first|exact badRd wr hb ‹_›|exact goodRd_no ‹_› ‹_›
            unfold goodOp
            rw [all_stop h1 hi hbad,Bool.false_and])
         | (have hgd:goodRd ((rds a).getD i.toNat [])=true:=by
              refine goodRd_of wr hb (by assumption) ?_
              first
                | (left;simpa using ‹(_ != (1:Int))=false›)
                | (right;simpa using ‹(_ != (6:Int))=false›)
            refine ⟨(rds a).length - (i+1).toNat,by omega,i+1,?_,by omega,by omega,rfl,all_next h1 hi h4 hgd⟩
            exact snapR (fun r z=>([.ptr 1 1 0,.val false [.sl true 3 r],.val false [.i .i64 z]],[(1,(rowC [.i .i64,.i .i64,.i .i64,.l 3,.i .i64,.i .i64,.i .i64,.i .i64,.i .i64,.s,.s,.i .i64,.s,.s,.i .i64,.i .i64,.l 118] a).map fun c=>.val false [c])])) (opNumsTo_next h1 hi) (wrap_next h1 hi lr)))
    | skip
  have he:i.toNat=(rds a).length:=by
    have:¬ i < ((rds a).length:Int):=of_decide_eq_false (by assumption)
    omega
  rw [he,List.take_length] at h4
  rw [he] at hli
  rw [he]
  have hln:(opNumsTo a (rds a).length).length≤maxLen:=by simp only [maxLen];omega
  refine awp_loop (Q:=_) [1,3,6] [1] (fun n q=>∃ k:Int,q=([.ptr 1 1 0,.val false [.sl true 3 (opNumsTo a (rds a).length)],.val false [.i .i64 k]],[(1,(rowC [.i .i64,.i .i64,.i .i64,.l 3,.i .i64,.i .i64,.i .i64,.i .i64,.i .i64,.s,.s,.i .i64,.s,.s,.i .i64,.i .i64,.l 118] a).map fun c=>.val false [c])])∧0≤k∧k≤(opNumsTo a (rds a).length).length∧n=(opNumsTo a (rds a).length).length - k.toNat∧((opNumsTo a (rds a).length).take k.toNat).all numRow=true) ?_ ?_
  · exact ⟨rfl,(opNumsTo a (rds a).length).length - 0,0,rfl,by omega,by omega,rfl,rfl⟩
  rintro n q ⟨k,rfl,k1,k2,k3,k4⟩
  repeat' first
    | (refine And.intro ?_ ?_)
    | (intro h;cases h)
    | (intro h;rw [h])
    | (intro h)
  all_goals first
    | (show lowEdges _=true;kernel_rfl)|(show logOk _ _=true;kernel_rfl)|exact True.intro|exact rfl|exact Or.inr rfl|exact Or.inl rfl
    | omega
    | exact of_decide_eq_true ‹_›
    | exact ⟨a,wa,rfl⟩
    | exact ⟨_,rfl⟩
    | (have hk:k < ((opNumsTo a (rds a).length).length:Int):=of_decide_eq_true ‹decide (k < ((opNumsTo a (rds a).length).length:Int))=true›
       first
         | omega
         | (refine resB (Eq.trans ?_ hok.symm)
            have hA:=all_stop (p:=numRow) k1 hk (by simpa [numRow] using ‹(!inR _ (-1000000000) 1000000000)=true›)
            unfold goodOp
            rw [hA,Bool.false_and,Bool.and_false])
         | exact ⟨(opNumsTo a (rds a).length).length - (k+1).toNat,by omega,k+1,congrArg (fun z:Int=>(([.ptr 1 1 0,.val false [.sl true 3 (opNumsTo a (rds a).length)],.val false [.i .i64 z]],[(1,(rowC [.i .i64,.i .i64,.i .i64,.l 3,.i .i64,.i .i64,.i .i64,.i .i64,.i .i64,.s,.s,.i .i64,.s,.s,.i .i64,.i .i64,.l 118] a).map fun c=>.val false [c])]):Snap)) (wrap_next k1 hk hln),by omega,by omega,rfl,all_next k1 hk k4 (by simpa [numRow] using ‹(!inR _ (-1000000000) 1000000000)=false›)⟩)
    | (have hA:=all_end k1 k2 (by assumption) k4
       refine resB (Eq.trans ?_ hok.symm)
       unfold goodOp
       rw [h4,hA,Bool.true_and,Bool.true_and]
       exact congrArg okOp hrow)
theorem all_take {p:List D→Bool} {rows:List (List D)} {i:Int} (h0:0≤i) (hi:i < rows.length):(rows.take (i+1).toNat).all p=((rows.take i.toNat).all p && p (rows.getD i.toNat [])):=by
  have e:(i+1).toNat=i.toNat+1:=by omega
  rw [e,List.take_add_one,row_at h0 hi,List.all_append]
  simp
theorem snapW (f:List (List D)→Bool→Int→Snap) {r r' : List (List D)} {x x' : Bool} {a b:Int} (h:r=r') (h1:x=x') (h2:a=b):f r x a=f r' x' b:=by rw [h,h1,h2]
theorem flag1 {b y z:Bool} (h:(b || !y)=true):true=(b || !(y && z)):=by revert h;cases b <;> cases y <;> cases z <;> simp
theorem flag2 {b y z:Bool} (h:(b || !y)=false):(!z)=(b || !(y && z)):=by revert h;cases b <;> cases y <;> cases z <;> simp
theorem ok120:FOk Tryz.prog T 120 (spWNum 9):=by
  refine fokB (env:=envL [(145,spNum),(74,spItoa)]) (N:=36) tabT (envL_cons ok145 (envL_cons ok74 envL_nil)) mixed Tryz.func120 rfl Tryz.call120 Tryz.ntmps120 ?_
  rintro cs args ⟨ws,nums,b,hl,he⟩ hwf
  simp only [List.cons.injEq,SV.tup.injEq,Prod.mk.injEq,true_and,and_true] at he
  obtain ⟨rfl,rfl⟩:=he
  have wa:WfD T (.l 3) (.l nums):=arg0 hwf (List.mem_singleton_self _)
  have la:=wa.len
  clear hwf
  refine ⟨by simp,?_⟩
  rw [Tryz.results120]
  repeat' first
    | (refine And.intro ?_ ?_)
    | (intro h;cases h)
    | (intro h;rw [h])
    | (intro h)
  all_goals first
    | (show lowEdges _=true;kernel_rfl)|(show logOk _ _=true;kernel_rfl)|exact True.intro|exact rfl|exact Or.inr rfl|exact Or.inl rfl
    | skip
  refine awp_loop (Q:=_) [0,6,7,8] [36] (fun n q=>∃ i:Int,q=([.ptr 36 0 0,argS 3 nums,.val false [.i .i64 (nums.length:Int)],.val false [.i .i64 i]],[(0,[.val false [.sl true 9 (ws++(nums.take (i).toNat).map rowW)],.val false [.b (b || !((nums.take (i).toNat).all numRow))]])])∧0≤i∧i≤nums.length∧n=nums.length - i.toNat) ?_ ?_
  · refine ⟨rfl,nums.length - 0,0,?_,by omega,by omega,rfl⟩
    have h1:ws++(nums.take (0:Int).toNat).map rowW=ws:=by simp
    have h2:(b || !((nums.take (0:Int).toNat).all numRow))=b:=by simp
    rw [h1,h2]
    rfl
  rintro n q ⟨i,rfl,h1,h2,h3⟩
  repeat' first
    | (refine And.intro ?_ ?_)
    | (intro h;cases h)
    | (intro h;rw [h])
    | (intro h)
  all_goals first
    | (show lowEdges _=true;kernel_rfl)|(show logOk _ _=true;kernel_rfl)|exact True.intro|exact rfl|exact Or.inr rfl|exact Or.inl rfl
    | omega
    | exact of_decide_eq_true ‹_›
    | exact ⟨_,rfl⟩
    | (have hi:i < (nums.length:Int):=of_decide_eq_true ‹decide (i < (nums.length:Int))=true›
       have hln:(ws++(nums.take i.toNat).map rowW).length=ws.length+i.toNat:=by rw [List.length_append,List.length_map,List.length_take,Nat.min_eq_left (by omega)]
       first
         | (rw [hln];show ws.length+i.toNat+1≤maxLen;simp only [maxLen];omega)
         | (rw [hln];show (ws.length+i.toNat+1) * 16≤140737488355328;omega)
         | (refine ⟨nums.length - (i+1).toNat,by omega,i+1,?_,by omega,by omega,rfl⟩
            exact snapW (fun r x z=>([.ptr 36 0 0,argS 3 nums,.val false [.i .i64 (nums.length:Int)],.val false [.i .i64 z]],[(0,[.val false [.sl true 9 r],.val false [.b x]])])) (by rw [map_next h1 hi,List.append_assoc];rfl) (by rw [all_take h1 hi];first|exact flag1 ‹_›|exact flag2 ‹_›) (wrap_next h1 hi la)))
    | (have he:i.toNat=nums.length:=by
         have:¬ i < (nums.length:Int):=of_decide_eq_false (by assumption)
         omega
       simp only [he,List.take_length]
       rfl)
theorem ok121:FOk Tryz.prog T 121 (spWText 9):=by
  refine fokB (env:=envL [(194,spEnc)]) (N:=24) tabT (envL_cons ok194 envL_nil) mixed Tryz.func121 rfl Tryz.call121 Tryz.ntmps121 ?_
  rintro cs args ⟨ws,txts,b,hl,hsz,he⟩ hwf
  simp only [List.cons.injEq,SV.tup.injEq,Prod.mk.injEq,true_and,and_true] at he
  obtain ⟨rfl,rfl⟩:=he
  have wa:WfD T (.l 9) (.l txts):=arg0 hwf (List.mem_singleton_self _)
  have la:=wa.len
  clear hwf
  refine ⟨by simp,?_⟩
  rw [Tryz.results121]
  repeat' first
    | (refine And.intro ?_ ?_)
    | (intro h;cases h)
    | (intro h;rw [h])
    | (intro h)
  all_goals first
    | (show lowEdges _=true;kernel_rfl)|(show logOk _ _=true;kernel_rfl)|exact True.intro|exact rfl|exact Or.inr rfl|exact Or.inl rfl
    | skip
  refine awp_loop (Q:=_) [0,6,7,8] [24] (fun n q=>∃ i:Int,q=([.ptr 24 0 0,argS 9 txts,.val false [.i .i64 (txts.length:Int)],.val false [.i .i64 i]],[(0,[.val false [.sl true 9 (ws++(txts.take (i).toNat).map rowE)],.val false [.b b]])])∧0≤i∧i≤txts.length∧n=txts.length - i.toNat) ?_ ?_
  · refine ⟨rfl,txts.length - 0,0,?_,by omega,by omega,rfl⟩
    have h1:ws++(txts.take (0:Int).toNat).map rowE=ws:=by simp
    rw [h1]
    rfl
  rintro n q ⟨i,rfl,h1,h2,h3⟩
  repeat' first
    | (refine And.intro ?_ ?_)
    | (intro h;cases h)
    | (intro h;rw [h])
    | (intro h)
  all_goals first
    | (show lowEdges _=true;kernel_rfl)|(show logOk _ _=true;kernel_rfl)|exact True.intro|exact rfl|exact Or.inr rfl|exact Or.inl rfl
    | omega
    | exact of_decide_eq_true ‹_›
    | (have hi:i < (txts.length:Int):=of_decide_eq_true ‹decide (i < (txts.length:Int))=true›
       have hln:(ws++(txts.take i.toNat).map rowE).length=ws.length+i.toNat:=by rw [List.length_append,List.length_map,List.length_take,Nat.min_eq_left (by omega)]
       first
         | exact ⟨_,hsz i.toNat (by omega),rfl⟩
         | (rw [hln];show ws.length+i.toNat+1≤maxLen;simp only [maxLen];omega)
         | (rw [hln];show (ws.length+i.toNat+1) * 16≤140737488355328;omega)
         | (refine ⟨txts.length - (i+1).toNat,by omega,i+1,?_,by omega,by omega,rfl⟩
            exact snapR (fun r z=>([.ptr 24 0 0,argS 9 txts,.val false [.i .i64 (txts.length:Int)],.val false [.i .i64 z]],[(0,[.val false [.sl true 9 r],.val false [.b b]])])) (by rw [map_next h1 hi,List.append_assoc];rfl) (wrap_next h1 hi la)))
    | (have he:i.toNat=txts.length:=by
         have:¬ i < (txts.length:Int):=of_decide_eq_false (by assumption)
         omega
       simp only [he,List.take_length]
       rfl)
end Go.Proofs.YtppgalpldaibhaaGreatDoor.Ab
