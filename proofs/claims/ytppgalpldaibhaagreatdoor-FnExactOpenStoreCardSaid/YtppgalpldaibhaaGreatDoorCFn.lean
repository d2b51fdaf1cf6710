/- Operations written by the reference: printed by a program of this claim. -/
import Derived.Test.YtppgalpldaibhaaGreatDoorCFi
namespace Go.Proofs.YtppgalpldaibhaaGreatDoor.Ab
open Go.RowKit
set_option linter.unusedVariables false
set_option linter.unusedSimpArgs false
set_option maxRecDepth 100000
set_option maxHeartbeats 1000000
theorem opText_good {a:List D} (h:goodOp a=true):opText a=joinT (strsOf (opWordsTo a (rds a).length)) ⟨#[32]⟩:=if_pos h
theorem opText_bad {a:List D} (h:goodOp a=false):opText a=⟨#[]⟩:=if_neg (by rw [h];decide)
theorem ok66:FOk Tryz.prog T 66 (spOpT T [.i .i64,.i .i64,.i .i64,.l 3,.i .i64,.i .i64,.i .i64,.i .i64,.i .i64,.s,.s,.i .i64,.s,.s,.i .i64,.i .i64,.l 118]):=by
  refine fok (env:=envL [(138,(spGood T [.i .i64,.i .i64,.i .i64,.l 3,.i .i64,.i .i64,.i .i64,.i .i64,.i .i64,.s,.s,.i .i64,.s,.s,.i .i64,.i .i64,.l 118])),(139,(spNums T [.i .i64,.i .i64,.i .i64,.l 3,.i .i64,.i .i64,.i .i64,.i .i64,.i .i64,.s,.s,.i .i64,.s,.s,.i .i64,.i .i64,.l 118])),(117,spItoa),(140,spEnc),(22,(spText T [.i .i64,.i .i64,.i .i64,.s,.l 33,.l 9,.l 91])),(141,spJoin)]) (N:=93) tabT (envL_cons ok138 (envL_cons ok139 (envL_cons ok117 (envL_cons ok140 (envL_cons ok22 (envL_cons ok141 envL_nil)))))) mixed Tryz.func66 rfl Tryz.call66 Tryz.ntmps66 ?_
  rintro args ⟨a,wa,hs,rfl⟩ hwf
  have hs1:=hs.1
  have hs2:=hs.2.1
  have hs3:=hs.2.2.1
  have hs4:=hs.2.2.2
  have hl:=opNums_length a
  have hl1:=opWords1_length a
  have hl2:=opWords2_length a
  have wR:WfD T (.l 118) (.l (rds a)):=wa.rows (j:=16) rfl
  have lr:=wR.len
  refine ⟨by simp,?_⟩
  rw [Tryz.results66]
  clear hwf
  have hrow:csD (rowC [.i .i64,.i .i64,.i .i64,.l 3,.i .i64,.i .i64,.i .i64,.i .i64,.i .i64,.s,.s,.i .i64,.s,.s,.i .i64,.i .i64,.l 118] a)=a:=csD_rowC wa
  have hok:opText (csD (rowC [.i .i64,.i .i64,.i .i64,.l 3,.i .i64,.i .i64,.i .i64,.i .i64,.i .i64,.s,.s,.i .i64,.s,.s,.i .i64,.i .i64,.l 118] a))=opText a:=by rw [csD_rowC wa]
  repeat' first
    | (refine And.intro ?_ ?_)
    | (intro h;cases h)
    | (intro h;rw [h])
    | (intro h)
  all_goals first
    | (show lowEdges _=true;kernel_rfl)|(show logOk _ _=true;kernel_rfl)|exact True.intro|exact rfl|exact Or.inr rfl|exact Or.inl rfl
    | exact ⟨a,wa,hs,rfl⟩
    | (refine resS (Eq.trans ?_ hok.symm)
       have hg:(!goodOp (csD (rowC [.i .i64,.i .i64,.i .i64,.l 3,.i .i64,.i .i64,.i .i64,.i .i64,.i .i64,.s,.s,.i .i64,.s,.s,.i .i64,.i .i64,.l 118] a)))=true:=by assumption
       rw [hrow] at hg
       exact (opText_bad (by simpa using hg)).symm)
    | skip
  have hg:goodOp a=true:=by
    have hg:(!goodOp (csD (rowC [.i .i64,.i .i64,.i .i64,.l 3,.i .i64,.i .i64,.i .i64,.i .i64,.i .i64,.s,.s,.i .i64,.s,.s,.i .i64,.i .i64,.l 118] a)))=false:=by assumption
    rw [hrow] at hg
    simpa using hg
  have hgr:=hg
  simp only [goodOp,Bool.and_eq_true] at hgr
  refine awp_loop (Q:=_) [1,3,4,5] [1] (fun n q=>∃ i:Int,q=([.ptr 1 1 0,.val false [.sl true 9 ((opNums a).take i.toNat |>.map rowW)],.val false [.sl true 3 (opNums a)],.val false [.i .i64 i]],[(1,(rowC [.i .i64,.i .i64,.i .i64,.l 3,.i .i64,.i .i64,.i .i64,.i .i64,.i .i64,.s,.s,.i .i64,.s,.s,.i .i64,.i .i64,.l 118] a).map fun c=>.val false [c])])∧0≤i∧i≤(opNums a).length∧n=(opNums a).length - i.toNat) ?_ ?_
  · refine ⟨rfl,(opNums a).length - 0,0,?_,by omega,by omega,rfl⟩
    have hn:opNums (csD (rowC [.i .i64,.i .i64,.i .i64,.l 3,.i .i64,.i .i64,.i .i64,.i .i64,.i .i64,.s,.s,.i .i64,.s,.s,.i .i64,.i .i64,.l 118] a))=opNums a:=by rw [hrow]
    rw [← hn]
    rfl
  rintro n q ⟨i,rfl,h1,h2,h3⟩
  have hmx:(opNums a).length≤maxLen:=by simp only [maxLen];omega
  repeat' first
    | (refine And.intro ?_ ?_)
    | (intro h;cases h)
    | (intro h;rw [h])
    | (intro h)
  all_goals first
    | (show lowEdges _=true;kernel_rfl)|(show logOk _ _=true;kernel_rfl)|exact True.intro|exact rfl|exact Or.inr rfl|exact Or.inl rfl
    | omega
    | exact of_decide_eq_true ‹_›
    | exact ⟨_,rfl⟩
    | (have hi:i < ((opNums a).length:Int):=of_decide_eq_true ‹decide (i < ((opNums a).length:Int))=true›
       have hln:((opNums a).take i.toNat |>.map rowW).length=i.toNat:=by rw [List.length_map,List.length_take,Nat.min_eq_left (by omega)]
       first
         | omega
         | (rw [hln];show i.toNat+1≤maxLen;simp only [maxLen];omega)
         | (rw [hln];show (i.toNat+1) * 16≤140737488355328;omega)
         | (refine ⟨(opNums a).length - (i+1).toNat,by omega,i+1,?_,by omega,by omega,rfl⟩
            exact snapR (fun r z=>([.ptr 1 1 0,.val false [.sl true 9 r],.val false [.sl true 3 (opNums a)],.val false [.i .i64 z]],[(1,(rowC [.i .i64,.i .i64,.i .i64,.l 3,.i .i64,.i .i64,.i .i64,.i .i64,.i .i64,.s,.s,.i .i64,.s,.s,.i .i64,.i .i64,.l 118] a).map fun c=>.val false [c])])) (by rw [map_next h1 hi];rfl) (wrap_next h1 hi hmx)))
    | exact ⟨_,Nat.le_trans hs3.1 (by decide),rfl⟩
    | exact ⟨_,Nat.le_trans hs3.2.1 (by decide),rfl⟩
    | exact ⟨_,Nat.le_trans hs3.2.2.1 (by decide),rfl⟩
    | exact ⟨_,Nat.le_trans hs3.2.2.2 (by decide),rfl⟩
    | (have hln:((opNums a).take i.toNat |>.map rowW).length=i.toNat:=by rw [List.length_map,List.length_take,Nat.min_eq_left (by omega)]
       have h2' : i.toNat≤1048585:=by omega
       clear h1 h2 h3
       first
         | (rw [hln];show i.toNat+4≤maxLen;simp only [maxLen];omega)
         | (rw [hln];show (i.toNat+4) * 16≤140737488355328;omega)
         | (rw [List.length_append,hln];show i.toNat+4+3≤maxLen;simp only [maxLen];omega)
         | (rw [List.length_append,hln];show (i.toNat+4+3) * 16≤140737488355328;omega))
    | skip
  have he:i.toNat=(opNums a).length:=by
    have:¬ i < ((opNums a).length:Int):=of_decide_eq_false (by assumption)
    omega
  rw [he,List.take_length]
  clear h1 h2 h3 he
  refine awp_loop (Q:=_) [1,3,6] [1] (fun n q=>∃ i:Int,q=([.ptr 1 1 0,.val false [.sl true 9 (opWordsTo a i.toNat)],.val false [.i .i64 i]],[(1,(rowC [.i .i64,.i .i64,.i .i64,.l 3,.i .i64,.i .i64,.i .i64,.i .i64,.i .i64,.s,.s,.i .i64,.s,.s,.i .i64,.i .i64,.l 118] a).map fun c=>.val false [c])])∧0≤i∧i≤(rds a).length∧n=(rds a).length - i.toNat) ?_ ?_
  · refine ⟨rfl,(rds a).length - 0,0,?_,by omega,by omega,rfl⟩
    have h0:opWordsTo a (0:Int).toNat=opWords2 a:=by simp [opWordsTo]
    rw [h0]
    rfl
  rintro n q ⟨i,rfl,h1,h2,h3⟩
  have hli:=opWordsTo_length (a:=a) (i:=i.toNat) (by omega)
  repeat' first
    | (refine And.intro ?_ ?_)
    | (intro h;cases h)
    | (intro h;rw [h])
    | (intro h)
  all_goals first
    | (show lowEdges _=true;kernel_rfl)|(show logOk _ _=true;kernel_rfl)|exact True.intro|exact rfl|exact Or.inr rfl|exact Or.inl rfl
    | omega
    | exact of_decide_eq_true ‹_›
    | exact ⟨_,rfl⟩
    | (have hi:i < ((rds a).length:Int):=of_decide_eq_true ‹decide (i < ((rds a).length:Int))=true›
       have wr:WfRow T [.i .i64,.i .i64,.i .i64,.s,.i .i64,.i .i64,.i .i64,.s,.l 33,.l 9,.l 91] ((rds a).getD i.toNat []):=wR.row rfl (by omega)
       have hb:=hs4 i.toNat (by omega)
       have hgi:goodRd ((rds a).getD i.toNat [])=true:=List.all_eq_true.1 hgr.1 _ (List.mem_of_getElem? (row_at h1 hi))
       first
         | omega
         | exact ⟨_,Nat.le_trans hb.1 (by decide),rfl⟩
         | exact ⟨_,wr.sub 4 7 (by decide),⟨Nat.le_trans hb.2 (by decide),goodRd_kind hgi,goodRd_val hgi⟩,rfl⟩
         | (have hf:fmtVal (csD (rowC [.i .i64,.i .i64,.i .i64,.s,.l 33,.l 9,.l 91] (sub ((rds a).getD i.toNat []) 4 7)))=fmtVal (sub ((rds a).getD i.toNat []) 4 7):=congrArg fmtVal (csD_rowC (wr.sub 4 7 (by decide)))
            have hz:(fmtVal (csD (rowC [.i .i64,.i .i64,.i .i64,.s,.l 33,.l 9,.l 91] (sub ((rds a).getD i.toNat []) 4 7)))).size≤70368744177664:=by rw [hf];exact Nat.le_trans (fmtVal_size (goodRd_val hgi) (goodRd_kind hgi)) (by decide)
            first
              | exact ⟨_,hz,rfl⟩
              | (rw [hli];show (a.getD 3 default).rows.length+16+5 * i.toNat+5≤maxLen;simp only [maxLen];omega)
              | (rw [hli];show ((a.getD 3 default).rows.length+16+5 * i.toNat+5) * 16≤140737488355328;omega)
              | (refine ⟨(rds a).length - (i+1).toNat,by omega,i+1,?_,by omega,by omega,rfl⟩
                 exact snapR (fun r z=>([.ptr 1 1 0,.val false [.sl true 9 r],.val false [.i .i64 z]],[(1,(rowC [.i .i64,.i .i64,.i .i64,.l 3,.i .i64,.i .i64,.i .i64,.i .i64,.i .i64,.s,.s,.i .i64,.s,.s,.i .i64,.i .i64,.l 118] a).map fun c=>.val false [c])])) (by rw [← opWordsTo_next h1 hi,rdWords, ← hf];rfl) (wrap_next h1 hi lr))))
    | (have he:i.toNat=(rds a).length:=by
         have:¬ i < ((rds a).length:Int):=of_decide_eq_false (by assumption)
         omega
       rw [he] at hli ⊢
       first
         | exact ⟨_,_,by omega,opText_size hs hg,rfl⟩
         | exact resS (Eq.trans (opText_good hg).symm hok.symm))
theorem badRd2 {r:List D} (wr:WfRow T [.i .i64,.i .i64,.i .i64,.s,.i .i64,.i .i64,.i .i64,.s,.l 33,.l 9,.l 91] r) (h:(!svOk [argG [.i .i64,.i .i64,.i .i64,.s,.l 33,.l 9,.l 91] (sub r 4 7)])=true):goodRd r=false:=by
  have he:svOk [argG [.i .i64,.i .i64,.i .i64,.s,.l 33,.l 9,.l 91] (sub r 4 7)]=okVal (sub r 4 7):=congrArg okVal (csD_rowC (wr.sub 4 7 (by decide)))
  rw [he] at h
  unfold goodRd
  rw [show okVal (sub r 4 7)=false by simpa using h,Bool.and_false]
theorem goodRd_of2 {r:List D} (wr:WfRow T [.i .i64,.i .i64,.i .i64,.s,.i .i64,.i .i64,.i .i64,.s,.l 33,.l 9,.l 91] r) (h:(!svOk [argG [.i .i64,.i .i64,.i .i64,.s,.l 33,.l 9,.l 91] (sub r 4 7)])=false) (hk:(r.getD 4 default).int=1∨(r.getD 4 default).int=6):goodRd r=true:=by
  have he:svOk [argG [.i .i64,.i .i64,.i .i64,.s,.l 33,.l 9,.l 91] (sub r 4 7)]=okVal (sub r 4 7):=congrArg okVal (csD_rowC (wr.sub 4 7 (by decide)))
  rw [he] at h
  unfold goodRd
  rw [show okVal (sub r 4 7)=true by simpa using h,Bool.and_true]
  rcases hk with h1|h6
  · rw [h1];rfl
  · rw [h6];rfl
theorem ok47:FOk Tryz.prog T 47 (spOpT T [.i .i64,.i .i64,.i .i64,.l 3,.i .i64,.i .i64,.i .i64,.i .i64,.i .i64,.s,.s,.i .i64,.s,.s,.i .i64,.i .i64,.l 118]):=by
  have hE:EnvOk Tryz.prog T (envL [(119,(spOp T [.i .i64,.i .i64,.i .i64,.l 3,.i .i64,.i .i64,.i .i64,.i .i64,.i .i64,.s,.s,.i .i64,.s,.s,.i .i64,.i .i64,.l 118])),(120,(spWNum 9)),(121,(spWText 9)),(73,sp73),(20,(spText T [.i .i64,.i .i64,.i .i64,.s,.l 33,.l 9,.l 91])),(77,spJoin)]):=(envL_cons ok119 (envL_cons ok120 (envL_cons ok121 (envL_cons ok73 (envL_cons ok20 (envL_cons ok77 envL_nil))))))
  refine fokS' (N:=116) tabT Tryz.func47 rfl Tryz.call47 Tryz.ntmps47 rfl ?_
  rintro args ⟨a,wa,hs,rfl⟩ hwf
  have hs1:=hs.1
  have hs2:=hs.2.1
  have hs3:=hs.2.2.1
  have hs4:=hs.2.2.2
  have hl:=opNums_length a
  have hl1:=opWords1_length a
  have hl2:=opWords2_length a
  have wR:WfD T (.l 118) (.l (rds a)):=wa.rows (j:=16) rfl
  have lr:=wR.len
  refine ⟨by simp,?_⟩
  rw [Tryz.results47]
  clear hwf
  have hrow:csD (rowC [.i .i64,.i .i64,.i .i64,.l 3,.i .i64,.i .i64,.i .i64,.i .i64,.i .i64,.s,.s,.i .i64,.s,.s,.i .i64,.i .i64,.l 118] a)=a:=csD_rowC wa
  have hok:opText (csD (rowC [.i .i64,.i .i64,.i .i64,.l 3,.i .i64,.i .i64,.i .i64,.i .i64,.i .i64,.s,.s,.i .i64,.s,.s,.i .i64,.i .i64,.l 118] a))=opText a:=by rw [csD_rowC wa]
  have hok2:okOp (csD (rowC [.i .i64,.i .i64,.i .i64,.l 3,.i .i64,.i .i64,.i .i64,.i .i64,.i .i64,.s,.s,.i .i64,.s,.s,.i .i64,.i .i64,.l 118] a))=okOp a:=by rw [csD_rowC wa]
  refine Snd.cut2 tabT hE mixed [1] [1] (fun q=>q=([.ptr 1 1 0],[(1,(rowC [.i .i64,.i .i64,.i .i64,.l 3,.i .i64,.i .i64,.i .i64,.i .i64,.i .i64,.s,.s,.i .i64,.s,.s,.i .i64,.i .i64,.l 118] a).map fun c=>.val false [c])])∧okOp a=true) ?_ ?_
  · repeat' first
      | (refine And.intro ?_ ?_)
      | (intro h;cases h)
      | (intro h;rw [h])
      | (intro h)
    all_goals first
      | (show lowEdges _=true;kernel_rfl)|(show logOk _ _=true;kernel_rfl)|exact True.intro|exact rfl|exact Or.inr rfl|exact Or.inl rfl
      | exact ⟨a,wa,rfl⟩
      | (refine resS (Eq.trans ?_ hok.symm)
         have hg:(!okOp (csD (rowC [.i .i64,.i .i64,.i .i64,.l 3,.i .i64,.i .i64,.i .i64,.i .i64,.i .i64,.s,.s,.i .i64,.s,.s,.i .i64,.i .i64,.l 118] a)))=true:=by assumption
         rw [hok2] at hg
         have hg:goodOp a=false:=by unfold goodOp;rw [show okOp a=false by simpa using hg,Bool.and_false,Bool.and_false]
         exact (opText_bad hg).symm)
      | rfl
      | (have hg:(!okOp (csD (rowC [.i .i64,.i .i64,.i .i64,.l 3,.i .i64,.i .i64,.i .i64,.i .i64,.i .i64,.s,.s,.i .i64,.s,.s,.i .i64,.i .i64,.l 118] a)))=false:=by assumption
         rw [hok2] at hg
         simpa using hg)
  rintro q ⟨rfl,hop⟩
  refine Snd.cut2 tabT hE mixed [1,3] [1,11] (fun q=>q=([.ptr 1 1 0,.ptr 11 1 0],[(1,(rowC [.i .i64,.i .i64,.i .i64,.l 3,.i .i64,.i .i64,.i .i64,.i .i64,.i .i64,.s,.s,.i .i64,.s,.s,.i .i64,.i .i64,.l 118] a).map fun c=>.val false [c]),(1,[.val false [.sl true 9 ((ints a [0,1,2]).map rowW)],.val false [.b (!(ints a [0,1,2]).all numRow)]])])) ?_ ?_
  · repeat' first
      | (refine And.intro ?_ ?_)
      | (intro h;cases h)
      | (intro h;rw [h])
      | (intro h)
    all_goals first
      | (show lowEdges _=true;kernel_rfl)|(show logOk _ _=true;kernel_rfl)|exact True.intro|exact rfl|exact Or.inr rfl|exact Or.inl rfl
      | (refine ⟨_,_,_,?_,rfl⟩;first|(simp only [List.length_append,List.length_map,List.length_cons,List.length_nil,ints,opWords1_length];omega)|(simp only [List.length_append,List.length_map,List.length_cons,List.length_nil,ints,opWords1_length,Nat.reduceAdd];omega)|(show (3+(a.getD 3 default).rows.length) * 16≤140737488355328;omega))
      | rfl
  rintro q rfl
  refine Snd.cut2 tabT hE mixed [1,3,4] [1,11,4] (fun q=>q=([.ptr 1 1 0,.ptr 11 1 0,.ptr 4 1 0],[(1,(rowC [.i .i64,.i .i64,.i .i64,.l 3,.i .i64,.i .i64,.i .i64,.i .i64,.i .i64,.s,.s,.i .i64,.s,.s,.i .i64,.i .i64,.l 118] a).map fun c=>.val false [c]),(1,[.val false [.sl true 9 ((ints a [0,1,2]).map rowW++(a.getD 3 default).rows.map rowW)],.val false [.b (!(ints a [0,1,2]).all numRow || !(a.getD 3 default).rows.all numRow)]]),(1,(rowC [.i .i64,.i .i64,.i .i64,.s,.s,.i .i64] (sub a 6 6)).map fun c=>.val false [c])])) ?_ ?_
  · repeat' first
      | (refine And.intro ?_ ?_)
      | (intro h;cases h)
      | (intro h;rw [h])
      | (intro h)
    all_goals first
      | (show lowEdges _=true;kernel_rfl)|(show logOk _ _=true;kernel_rfl)|exact True.intro|exact rfl|exact Or.inr rfl|exact Or.inl rfl
      | (refine ⟨_,_,_,?_,rfl⟩;first|(simp only [List.length_append,List.length_map,List.length_cons,List.length_nil,ints,opWords1_length];omega)|(simp only [List.length_append,List.length_map,List.length_cons,List.length_nil,ints,opWords1_length,Nat.reduceAdd];omega)|(show (3+(a.getD 3 default).rows.length) * 16≤140737488355328;omega))
      | rfl
  rintro q rfl
  refine Snd.cut2 tabT hE mixed [1,3] [1,11] (fun q=>q=([.ptr 1 1 0,.ptr 11 1 0],[(1,(rowC [.i .i64,.i .i64,.i .i64,.l 3,.i .i64,.i .i64,.i .i64,.i .i64,.i .i64,.s,.s,.i .i64,.s,.s,.i .i64,.i .i64,.l 118] a).map fun c=>.val false [c]),(1,[.val false [.sl true 9 ((ints a [0,1,2]).map rowW++(a.getD 3 default).rows.map rowW++(ints a [4,5,6,7,8,11]).map rowW++[encW (a.getD 9 default).str,encW (a.getD 10 default).str,encW (a.getD 12 default).str,encW (a.getD 13 default).str])],.val false [.b (!(ints a [0,1,2]).all numRow || !(a.getD 3 default).rows.all numRow || !(ints a [4,5,6,7,8,11]).all numRow)]])])) ?_ ?_
  · repeat' first
      | (refine And.intro ?_ ?_)
      | (intro h;cases h)
      | (intro h;rw [h])
      | (intro h)
    all_goals first
      | (show lowEdges _=true;kernel_rfl)|(show logOk _ _=true;kernel_rfl)|exact True.intro|exact rfl|exact Or.inr rfl|exact Or.inl rfl
      | (refine ⟨_,_,_,?_,rfl⟩;first|(simp only [List.length_append,List.length_map,List.length_cons,List.length_nil,ints,opWords1_length];omega)|(simp only [List.length_append,List.length_map,List.length_cons,List.length_nil,ints,opWords1_length,Nat.reduceAdd];omega)|(show (3+(a.getD 3 default).rows.length) * 16≤140737488355328;omega))
      | (refine ⟨_,_,_,?_,txt4 (Nat.le_trans hs3.1 (by decide)) (Nat.le_trans hs3.2.1 (by decide)) (Nat.le_trans hs3.2.2.1 (by decide)) (Nat.le_trans hs3.2.2.2 (by decide)),rfl⟩;simp only [List.length_append,List.length_map,List.length_cons,List.length_nil,ints];omega)
      | rfl
  rintro q rfl
  rw [← opWords1_eq,flag_app,flag_app]
  refine Snd.cut2 tabT hE mixed [3] [11] (fun q=>q=([.ptr 11 1 0],[(1,[.val false [.sl true 9 (opWordsTo a (rds a).length)],.val false [.b (numFl a (rds a).length)]])])∧(rds a).all goodRd=true) ?_ ?_
  · repeat' first
      | (refine And.intro ?_ ?_)
      | (intro h;cases h)
      | (intro h;rw [h])
      | (intro h)
    all_goals first
      | (show lowEdges _=true;kernel_rfl)|(show logOk _ _=true;kernel_rfl)|exact True.intro|exact rfl|exact Or.inr rfl|exact Or.inl rfl
      | (refine ⟨_,_,_,?_,rfl⟩;first|(simp only [List.length_append,List.length_map,List.length_cons,List.length_nil,ints,opWords1_length];omega)|(simp only [List.length_append,List.length_map,List.length_cons,List.length_nil,ints,opWords1_length,Nat.reduceAdd];omega)|(show (3+(a.getD 3 default).rows.length) * 16≤140737488355328;omega))
      | skip
    refine awp_loop (Q:=_) [3,67,68,69] [11] (fun n q=>∃ i:Int,q=([.ptr 11 1 0,argS 118 (rds a),.val false [.i .i64 ((rds a).length:Int)],.val false [.i .i64 i]],[(1,[.val false [.sl true 9 (opWordsTo a (i).toNat)],.val false [.b (numFl a (i).toNat)]])])∧0≤i∧i≤(rds a).length∧n=(rds a).length - i.toNat∧((rds a).take i.toNat).all goodRd=true) ?_ ?_
    · refine ⟨rfl,(rds a).length - 0,0,?_,by omega,by omega,rfl,rfl⟩
      have h0:opWordsTo a (0:Int).toNat=opWords2 a:=by simp [opWordsTo]
      have h0' : numFl a (0:Int).toNat=numFl a 0:=rfl
      rw [h0,h0', ← numFl_zero hs2]
      rfl
    rintro n q ⟨i,rfl,h1,h2,h3,h4⟩
    have hli:=opWordsTo_length (a:=a) (i:=i.toNat) (by omega)
    repeat' first
      | (refine And.intro ?_ ?_)
      | (intro h;cases h)
      | (intro h;rw [h])
      | (intro h)
    all_goals first
      | (show lowEdges _=true;kernel_rfl)|(show logOk _ _=true;kernel_rfl)|exact True.intro|exact rfl|exact Or.inr rfl|exact Or.inl rfl
      | omega
      | exact of_decide_eq_true ‹_›
      | (have hi:i < ((rds a).length:Int):=of_decide_eq_true ‹decide (i < ((rds a).length:Int))=true›
         have wr:WfRow T [.i .i64,.i .i64,.i .i64,.s,.i .i64,.i .i64,.i .i64,.s,.l 33,.l 9,.l 91] ((rds a).getD i.toNat []):=wR.row rfl (by omega)
         have hb:=hs4 i.toNat (by omega)
         first
           | omega
           | (refine ⟨sub ((rds a).getD i.toNat []) 4 7,wr.sub 4 7 (by decide),Nat.le_trans hb.2 (by decide),?_,rfl⟩
              first
                | (left;simpa using ‹(_ != (1:Int))=false›)
                | (right;simpa using ‹(_ != (6:Int))=false›))
           | (refine resS (Eq.trans ?_ hok.symm)
              have hbad:goodRd ((rds a).getD i.toNat [])=false:=by first|exact goodRd_no ‹_› ‹_›|exact badRd2 wr ‹_›
              have hg:goodOp a=false:=by unfold goodOp;rw [all_stop h1 hi hbad,Bool.false_and]
              exact (opText_bad hg).symm)
           | (refine ⟨_,_,_,?_,rfl⟩
              rw [hli]
              show ((a.getD 3 default).rows.length+16+5 * i.toNat+3) * 16≤140737488355328
              omega)
           | (have hgi:goodRd ((rds a).getD i.toNat [])=true:=by
                refine goodRd_of2 wr (by assumption) ?_
                first
                  | (left;simpa using ‹(_ != (1:Int))=false›)
                  | (right;simpa using ‹(_ != (6:Int))=false›)
              have hf:fmtVal (csD (rowC [.i .i64,.i .i64,.i .i64,.s,.l 33,.l 9,.l 91] (sub ((rds a).getD i.toNat []) 4 7)))=fmtVal (sub ((rds a).getD i.toNat []) 4 7):=congrArg fmtVal (csD_rowC (wr.sub 4 7 (by decide)))
              have hz:(fmtVal (csD (rowC [.i .i64,.i .i64,.i .i64,.s,.l 33,.l 9,.l 91] (sub ((rds a).getD i.toNat []) 4 7)))).size≤70368744177664:=by rw [hf];exact Nat.le_trans (fmtVal_size (goodRd_val hgi) (goodRd_kind hgi)) (by decide)
              first
                | exact ⟨_,wr.sub 4 7 (by decide),⟨Nat.le_trans hb.2 (by decide),goodRd_kind hgi,goodRd_val hgi⟩,rfl⟩
                | (refine ⟨_,_,_,?_,txt2 (Nat.le_trans hb.1 (by decide)) hz,rfl⟩
                   rw [List.length_append,List.length_map,hli]
                   show ((a.getD 3 default).rows.length+16+5 * i.toNat+3+2) * 16≤140737488355328
                   omega)
                | (refine ⟨(rds a).length - (i+1).toNat,by omega,i+1,?_,by omega,by omega,rfl,all_next h1 hi h4 hgi⟩
                   exact snapW (fun r x z=>([.ptr 11 1 0,argS 118 (rds a),.val false [.i .i64 ((rds a).length:Int)],.val false [.i .i64 z]],[(1,[.val false [.sl true 9 (r)],.val false [.b (x)]])])) (by rw [← opWordsTo_next h1 hi,rdWords, ← hf,List.append_assoc];rfl) (by rw [← numFl_next h1 hi];rfl) (wrap_next h1 hi lr))))
      | (have he:i.toNat=(rds a).length:=by
           have:¬ i < ((rds a).length:Int):=of_decide_eq_false (by assumption)
           omega
         first
           | (rw [he,List.take_length] at h4;exact h4)
           | (rw [he];rfl))
  rintro q ⟨rfl,hall⟩
  refine Snd.of_awp tabT hE mixed ?_
  repeat' first
    | (refine And.intro ?_ ?_)
    | (intro h;cases h)
    | (intro h;rw [h])
    | (intro h)
  all_goals first
    | (show lowEdges _=true;kernel_rfl)|(show logOk _ _=true;kernel_rfl)|exact True.intro|exact rfl|exact Or.inr rfl|exact Or.inl rfl
    | (have hf:numFl a (rds a).length=true:=by assumption
       have hg:goodOp a=false:=by
         unfold goodOp
         rw [show (opNumsTo a (rds a).length).all numRow=false by simpa [numFl] using hf,Bool.false_and,Bool.and_false]
       exact resS (Eq.trans (opText_bad hg).symm hok.symm))
    | (have hf:numFl a (rds a).length=false:=by assumption
       have hg:goodOp a=true:=by
         unfold goodOp
         rw [hall,show (opNumsTo a (rds a).length).all numRow=true by simpa [numFl] using hf,hop]
         rfl
       have hln:=opWordsTo_length (a:=a) (Nat.le_refl (rds a).length)
       first
         | exact ⟨_,_,by omega,opText_size hs hg,rfl⟩
         | exact resS (Eq.trans (opText_good hg).symm hok.symm))
end Go.Proofs.YtppgalpldaibhaaGreatDoor.Ab
