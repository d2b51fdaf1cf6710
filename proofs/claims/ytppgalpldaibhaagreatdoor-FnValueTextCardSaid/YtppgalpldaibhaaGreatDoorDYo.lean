/- The reference's reading of tables, and of values, exactly: printed by a program of this claim. Values read whole: what the reference and the program hand back. No program in sight. The reference's ParseValue, exactly: printed by a program of this claim. -/
import Derived.Test.YtppgalpldaibhaaGreatDoorDYm
namespace Go.Proofs.YtppgalpldaibhaaGreatDoor.Ab
open Go.RowKit
set_option linter.unusedVariables false
set_option linter.unusedSimpArgs false
set_option maxRecDepth 100000
set_option maxHeartbeats 2000000
theorem xt173 (n:Nat) (itm:ByteArray→Int→List (List D) × Int) (hpos:∀ s k,PosIn s k→(itm s k).2 = -1∨(k < (itm s k).2∧(itm s k).2≤s.size)) (hwt:∀ s k,PosIn s k→wRows (itm s k).1≤4194304) (hwf:∀ s k,PosIn s k→(itm s k).1.length≤64∧∀ r ∈ (itm s k).1,WfRow T cV r) (hi:FOk Tryz.prog T 171 (spLP 33 (Fu n) itm)):FOk Tryz.prog T 173 (spVP [.i .i64,.i .i64,.i .i64,.s,.l 33,.l 9,.l 91] (Fu n) (fun s k=>tabP (itm s) s k)):=by
  refine fok (env:=envL [(169,spQuoP),(168,spStarts),(171,(spLP 33 (Fu n) itm)),(99,(spSplit true))]) (N:=88) tabT (envL_cons xk169 (envL_cons xk168 (envL_cons hi (envL_cons ok99 envL_nil)))) mixed Tryz.func173 rfl Tryz.call173 Tryz.ntmps173 ?_
  rintro args ⟨s,k,hp,hf,rfl⟩ hwf'
  clear hwf'
  refine ⟨by simp,?_⟩
  rw [Tryz.results173]
  repeat' first
    | (refine And.intro ?_ ?_)
    | (intro h;simp only [reduceCtorEq] at h;done)
    | (intro h;rw [h])
    | (intro h)
  all_goals first
    | (show lowEdges _=true;kernel_rfl)|(show logOk _ _=true;kernel_rfl)|exact True.intro|exact Or.inr rfl|exact Or.inl rfl
    | exact ⟨_,_,hp,rfl⟩
    | exact resV (tab_1 (by assumption)) rfl rfl
    | exact resV (tab_2 (by assumption) (by assumption)) rfl rfl
    | exact ⟨_,_,_,quo_in hp (by assumption),by decide,rfl⟩
    | (have c0:decide ((quoP s k).2 < 0)=false:=by assumption
       have c1:(!stB s (quoP s k).2 CLB)=false:=by assumption
       have hq:=posC (quo_in hp c0) (w:=CLB) (by decide) (of_notF c1)
       have hy:(IntKind.i64.wrap ((quoP s k).2+3))=(quoP s k).2+3:=hq.1
       have py:PosIn s (IntKind.i64.wrap ((quoP s k).2+3)):=by rw [hy];exact hq.2
       have gk:k≤(IntKind.i64.wrap ((quoP s k).2+3)):=by
         rw [hy]
         rcases quoP_pos hp.2.1 hp.2.2 with h|h
         · have:=of_decide_eq_false c0;omega
         · omega
       first
         | exact ⟨_,_,py,hf.of gk,rfl⟩
         | exact resV (tab_3 hy c0 c1 (by assumption)) rfl rfl
         | exact resV (tab_4 hy c0 c1 (by assumption) (by assumption)) rfl rfl
         | (have c2:decide ((itm s (IntKind.i64.wrap ((quoP s k).2+3))).2 < 0)=false:=by assumption
            have pin:PosIn s (itm s (IntKind.i64.wrap ((quoP s k).2+3))).2:=by
              rcases hpos s (IntKind.i64.wrap ((quoP s k).2+3)) py with h|h
              · have:=of_decide_eq_false c2;omega
              · exact ⟨py.1,by have:=py.2.1;omega,h.2⟩
            first
              | exact ⟨_,_,_,pin,by decide,rfl⟩
              | (refine ⟨_,?_,rfl⟩
                 rcases quoP_pos hp.2.1 hp.2.2 with h|h
                 · rw [h.2];decide
                 · have:=hp.1;have:=hp.2.1;omega)))
    | skip
  have c0:decide ((quoP s k).2 < 0)=false:=by assumption
  have c1:(!stB s (quoP s k).2 CLB)=false:=by assumption
  have c2:decide ((itm s (IntKind.i64.wrap ((quoP s k).2+3))).2 < 0)=false:=by assumption
  have c3:(!stB s (itm s (IntKind.i64.wrap ((quoP s k).2+3))).2 RPA)=false:=by assumption
  have hq:=posC (quo_in hp c0) (w:=CLB) (by decide) (of_notF c1)
  have hy:(IntKind.i64.wrap ((quoP s k).2+3))=(quoP s k).2+3:=hq.1
  have py:PosIn s (IntKind.i64.wrap ((quoP s k).2+3)):=by rw [hy];exact hq.2
  have pin:PosIn s (itm s (IntKind.i64.wrap ((quoP s k).2+3))).2:=by
    rcases hpos s (IntKind.i64.wrap ((quoP s k).2+3)) py with h|h
    · have:=of_decide_eq_false c2;omega
    · exact ⟨py.1,by have:=py.2.1;omega,h.2⟩
  have hz:=(posC pin (w:=RPA) (by decide) (of_notF c3)).1
  have hw:=hwf s (IntKind.i64.wrap ((quoP s k).2+3)) py
  have hwr:=hwt s (IntKind.i64.wrap ((quoP s k).2+3)) py
  generalize hR:itm s (IntKind.i64.wrap ((quoP s k).2+3))=R at *
  have hl:R.1.length≤64:=hw.1
  have hl' : R.1.length≤maxLen:=Nat.le_trans hl (by decide)
  refine awp_loop (Q:=_) [4,8,9,10,11] [4,10] (fun m st=>∃ i:Nat,st=([.ptr 4 1 0,argS 33 R.1,iArg R.2,.ptr 10 1 0,iArg (i:Int)],[(1,[.val false [.i .i64 0],.val false [.i .i64 0],.val false [.i .i64 0],.val false [.s ByteArray.empty],.val false [.sl true 33 []],.val false [.sl true 9 []],.val false [.sl true 91 []]]),(1,[.val false [.i .i64 5],.val false [.i .i64 0],.val false [.i .i64 0],.val false [.s ByteArray.empty],.val false [.sl true 33 []],.val false [.sl true 9 (strRows (wordsB (quoP s k).1))],.val false [.sl true 91 ((R.1.take i).map rowOfV)]])])∧i≤R.1.length∧m=R.1.length - i) ?_ ?_
  · exact ⟨rfl,R.1.length,0,rfl,Nat.zero_le _,rfl⟩
  rintro m st ⟨i,rfl,hle,rfl⟩
  repeat' first
    | (refine And.intro ?_ ?_)
    | (intro h;simp only [reduceCtorEq] at h;done)
    | (intro h;rw [h])
    | (intro h)
  all_goals first
    | (show lowEdges _=true;kernel_rfl)|(show logOk _ _=true;kernel_rfl)|exact True.intro|exact Or.inr rfl|exact Or.inl rfl
    | (have hi:¬ i < R.1.length:=nltN (by assumption)
       refine resV (tab_5 (itm:=itm s) (y:=(IntKind.i64.wrap ((quoP s k).2+3))) hy c0 c1 (by rw [hR];exact c2) (by rw [hR];exact c3)) ?_ (by rw [hR];exact hz)
       rw [hR]
       rw [take_end hi]
       rfl)
    | skip
  have hi:i < R.1.length:=ltN (by assumption)
  have wv:WfRow T cV (rAt R.1 i):=by
    refine hw.2 _ ?_
    show R.1.getD i [] ∈ R.1
    rw [List.getD_eq_getElem?_getD,List.getElem?_eq_getElem hi]
    exact List.getElem_mem hi
  have wl:=(wv.rows (j:=4) rfl).len
  have wl' : (lst (rAt R.1 i)).length≤maxLen:=wl
  have wvl:(lst (rAt R.1 i)).length≤4194304:=by
    have h1:=wRow_le hi
    have h2:=wRows_cell (rAt R.1 i) 4
    have h3:wRow (rAt R.1 i)≤wRows R.1:=h1
    show ((rAt R.1 i).getD 4 default).rows.length≤_
    omega
  refine awp_loop (Q:=_) [4,8,9,10,11,12,13] [4,10,12] (fun m st=>∃ k' : Nat,st=([.ptr 4 1 0,argS 33 R.1,iArg R.2,.ptr 10 1 0,iArg (i:Int),.ptr 12 1 0,iArg (k' : Int)],[(1,[.val false [.i .i64 0],.val false [.i .i64 0],.val false [.i .i64 0],.val false [.s ByteArray.empty],.val false [.sl true 33 []],.val false [.sl true 9 []],.val false [.sl true 91 []]]),(1,[.val false [.i .i64 5],.val false [.i .i64 0],.val false [.i .i64 0],.val false [.s ByteArray.empty],.val false [.sl true 33 []],.val false [.sl true 9 (strRows (wordsB (quoP s k).1))],.val false [.sl true 91 ((R.1.take i).map rowOfV)]]),(1,[.val false [.sl true 3 (((lst (rAt R.1 i)).take k').map fun y=>[D.i (iAt y 1)])],.val false [.sl true 153 []]])])∧k' ≤ (lst (rAt R.1 i)).length∧m=(lst (rAt R.1 i)).length - k') ?_ ?_
  · exact ⟨rfl,(lst (rAt R.1 i)).length,0,rfl,Nat.zero_le _,rfl⟩
  rintro m st ⟨k',rfl,kle,rfl⟩
  repeat' first
    | (refine And.intro ?_ ?_)
    | (intro h;simp only [reduceCtorEq] at h;done)
    | (intro h;rw [h])
    | (intro h)
  all_goals first
    | (show lowEdges _=true;kernel_rfl)|(show logOk _ _=true;kernel_rfl)|exact True.intro|exact Or.inr rfl|exact Or.inl rfl
    | with_reducible exact Int.natCast_nonneg _
    | (show (i:Int) < _;omega)
    | (show (Int.toNat (i:Int)) < _;rw [Int.toNat_natCast];exact hi)
    | (have hk:k' < (lst (rAt R.1 i)).length:=ltN (by assumption)
       first
         | (show (k' : Int) < ((lst (rAt R.1 i)).length:Int);omega)
         | (show (Int.toNat (k' : Int)) < _;rw [Int.toNat_natCast];exact hk)
         | exact wf_int (wf_lst wv (by show (lst (rAt R.1 i)).getD k' [] ∈ _;rw [List.getD_eq_getElem?_getD,List.getElem?_eq_getElem hk];exact List.getElem_mem hk))
         | (show (((lst (rAt R.1 i)).take k').map _).length+1≤maxLen;rw [List.length_map,List.length_take];omega)
         | (show ((((lst (rAt R.1 i)).take k').map _).length+1) * 8≤_;rw [List.length_map,List.length_take];omega)
         | (show Alive _ _;exact rfl)
         | (refine ⟨(lst (rAt R.1 i)).length - (k' + 1),by omega,k' + 1,?_,by omega,rfl⟩
            exact snapRZ (f:=fun r z=>(([.ptr 4 1 0,argS 33 R.1,iArg R.2,.ptr 10 1 0,iArg (i:Int),.ptr 12 1 0,iArg z],[(1,[.val false [.i .i64 0],.val false [.i .i64 0],.val false [.i .i64 0],.val false [.s ByteArray.empty],.val false [.sl true 33 []],.val false [.sl true 9 []],.val false [.sl true 91 []]]),(1,[.val false [.i .i64 5],.val false [.i .i64 0],.val false [.i .i64 0],.val false [.s ByteArray.empty],.val false [.sl true 33 []],.val false [.sl true 9 (strRows (wordsB (quoP s k).1))],.val false [.sl true 91 ((R.1.take i).map rowOfV)]]),(1,[.val false [.sl true 3 r],.val false [.sl true 153 []]])]):Snap)) (rows_next (fun y=>[D.i (iAt y 1)]) hk) (wrapN hk wl')))
    | (have hk:¬ k' < (lst (rAt R.1 i)).length:=nltN (by assumption)
       first
         | (show ((R.1.take i).map rowOfV).length+1≤maxLen;rw [List.length_map,List.length_take];simp only [maxLen];omega)
         | (show (((R.1.take i).map rowOfV).length+1) * 48≤_;rw [List.length_map,List.length_take];omega)
         | (show Alive _ _;exact rfl)
         | (refine ⟨R.1.length - (i+1),by omega,i+1,?_,by omega,rfl⟩
            refine snapRZ (f:=fun r z=>(([.ptr 4 1 0,argS 33 R.1,iArg R.2,.ptr 10 1 0,iArg z],[(1,[.val false [.i .i64 0],.val false [.i .i64 0],.val false [.i .i64 0],.val false [.s ByteArray.empty],.val false [.sl true 33 []],.val false [.sl true 9 []],.val false [.sl true 91 []]]),(1,[.val false [.i .i64 5],.val false [.i .i64 0],.val false [.i .i64 0],.val false [.s ByteArray.empty],.val false [.sl true 33 []],.val false [.sl true 9 (strRows (wordsB (quoP s k).1))],.val false [.sl true 91 r]])]):Snap)) ?_ (wrapN hi hl')
            refine Eq.trans ?_ (rows_next rowOfV hi)
            rw [take_end hk]
            rfl))
    | skip
end Go.Proofs.YtppgalpldaibhaaGreatDoor.Ab
namespace Go.Proofs.YtppgalpldaibhaaGreatDoor.Ab
open Go.RowKit
set_option linter.unusedVariables false
def pvOf (v:List D) (e:Bool) (s:ByteArray):List D × Bool:=if e=true∧(fmtO v).toList=s.toList∧s.toList ≠ [] then (v,true) else (vNil,false)
noncomputable def pvS (n:Nat) (s:ByteArray):List D × Bool:=pvOf (parF s n 0).1 ((parF s n 0).2 == (s.size:Int)) s
def spPV (cts:List CT) (n:Nat) (f:ByteArray→List D × Bool):FSpec where
  pre args:=∃ s:ByteArray,s.size≤1048576∧s.size+1≤n∧args=[sArg s]
  res args:=match args with
    | [.val _ [.s s]]=>.tup [(true,rowC cts (f s).1),(false,[.b (f s).2])]
    | _=>.none
theorem resVB {cts:List CT} {p q:List D × Bool} {cs:List CV} {e:Bool} (h:q=p) (hc:cs=rowC cts p.1) (he:e=p.2):[(true,cs),(false,[CV.b e])]=[(true,rowC cts q.1),(false,[CV.b q.2])]:=by
  subst h hc he;rfl
theorem pv_1 {v:List D} {e:Bool} {s:ByteArray} (h:e=false):pvOf v e s=(vNil,false):=by
  unfold pvOf;rw [if_neg (fun x=>by rw [h] at x;cases x.1)]
theorem pv_2 {v:List D} {e:Bool} {s:ByteArray} (h:(!(fmtO v).toList == s.toList)=true):pvOf v e s=(vNil,false):=by
  unfold pvOf;rw [if_neg (fun x=>by rw [x.2.1] at h;simp at h)]
theorem pv_3 {v:List D} {e:Bool} {s:ByteArray} (h:(s.toList == (⟨#[]⟩:ByteArray).toList)=true):pvOf v e s=(vNil,false):=by
  unfold pvOf;rw [if_neg (fun x=>x.2.2 (by rw [nil_toList] at h;exact eq_of_beq h))]
theorem pv_4 {v:List D} {e:Bool} {s:ByteArray} (he:e=true) (h:(!(fmtO v).toList == s.toList)=false) (h3:(s.toList == (⟨#[]⟩:ByteArray).toList)=false):pvOf v e s=(v,true):=by
  unfold pvOf
  rw [if_pos ⟨he,eq_of_beq (of_notF h),fun x=>by rw [nil_toList,x] at h3;simp at h3⟩]
theorem bne_T {x y:Int} (h:(x != y)=true):(x == y)=false:=by simpa [bne] using h
theorem bne_F {x y:Int} (h:(x != y)=false):(x == y)=true:=by simpa [bne] using h
end Go.Proofs.YtppgalpldaibhaaGreatDoor.Ab
namespace Go.Proofs.YtppgalpldaibhaaGreatDoor.Ab
open Go.RowKit
set_option linter.unusedVariables false
set_option linter.unusedSimpArgs false
set_option maxRecDepth 100000
set_option maxHeartbeats 2000000
theorem xpar88:∀ n,FOk Tryz.prog T 88 (spVP [.i .i64,.i .i64,.i .i64,.s,.l 33,.l 9,.l 91] (Fu n) (fun s k=>parF s n k)):=by
  intro n
  induction n with
  | zero =>
    exact fok (env:=envL []) (N:=80) tabT envL_nil mixed Tryz.func88 rfl Tryz.call88 Tryz.ntmps88 fun args h=>by
        obtain ⟨s,k,hp,hf,rfl⟩:=h
        have:=hp.2.2
        unfold Fu at hf
        omega
  | succ n ih =>
    have hi:FOk Tryz.prog T 171 (spLP 33 (Fu n) (fun s k=>itmP (parF s n) s k)):=xi171 n ih
    exact xp88 n hi (xt173 n (fun s k=>itmP (parF s n) s k) (fun s k hp=>by
      rcases itmP_pos (par:=parF s n) (s:=s) (k0:=k) (fun j hk hs=>parF_pos s n j (by have:=hp.2.1;omega) hs) hp.2.2 with h|h
      · exact .inl h.1
      · exact .inr ⟨h.1,h.2.1⟩) (fun s k hp=>by
      rcases itmP_pos (par:=parF s n) (s:=s) (k0:=k) (fun j hk hs=>parF_pos s n j (by have:=hp.2.1;omega) hs) hp.2.2 with h|h
      · show wRows (itmP (parF s n) s k).1≤_
        rw [h.2];exact Nat.zero_le _
      · have:=hp.1;have:=hp.2.1
        show wRows (itmP (parF s n) s k).1≤_
        omega) (fun s k hp=>wf_itm (par:=parF s n) (s:=s) (k0:=k) (fun j hk hs=>parF_pos s n j (by have:=hp.2.1;omega) hs) (fun j hk hs=>wf_par hp.1 n j (by have:=hp.2.1;omega) hs) hp.2.2) hi)
theorem xv27 (n:Nat) (par:ByteArray→Int→List D × Int) (hwf:∀ s,s.size≤1048576→WfRow T cV (par s 0).1) (hwt:∀ s,s.size≤1048576→wRow (par s 0).1≤WM) (hp:FOk Tryz.prog T 88 (spVP [.i .i64,.i .i64,.i .i64,.s,.l 33,.l 9,.l 91] (Fu n) par)):FOk Tryz.prog T 27 (spPV [.i .i64,.i .i64,.i .i64,.s,.l 33,.l 9,.l 91] n (fun s=>pvOf (par s 0).1 ((par s 0).2 == (s.size:Int)) s)):=by
  refine fok (env:=envL [(88,(spVP [.i .i64,.i .i64,.i .i64,.s,.l 33,.l 9,.l 91] (Fu n) par)),(22,(spGT T [.i .i64,.i .i64,.i .i64,.s,.l 33,.l 9,.l 91] SmM fmtO))]) (N:=27) tabT (envL_cons hp (envL_cons xk22 envL_nil)) mixed Tryz.func27 rfl Tryz.call27 Tryz.ntmps27 ?_
  rintro args ⟨s,hs,hn,rfl⟩ hwf'
  clear hwf'
  have w:=hwf s hs
  have wt:=hwt s hs
  have w7:csD (rowC [.i .i64,.i .i64,.i .i64,.s,.l 33,.l 9,.l 91] (par s 0).1)=(par s 0).1:=csD_rowC w
  refine ⟨by simp,?_⟩
  rw [Tryz.results27]
  repeat' first
    | (refine And.intro ?_ ?_)
    | (intro h;simp only [reduceCtorEq] at h;done)
    | (intro h;rw [h])
    | (intro h)
  all_goals first
    | (show lowEdges _=true;kernel_rfl)|(show logOk _ _=true;kernel_rfl)|exact True.intro|exact Or.inr rfl|exact Or.inl rfl
    | exact ⟨_,_,⟨hs,Int.le_refl _,Int.natCast_nonneg _⟩,(by unfold Fu;omega),rfl⟩
    | exact ⟨_,w,wt,rfl⟩
    | exact resVB (pv_1 (bne_T (by assumption))) rfl rfl
    | (have hz:(!(fmtO (par s 0).1).toList == s.toList)=true:=(by rw [← w7];assumption)
       exact resVB (pv_2 hz) rfl rfl)
    | exact resVB (pv_3 (by assumption)) rfl rfl
    | (have hz:(!(fmtO (par s 0).1).toList == s.toList)=false:=(by rw [← w7];assumption)
       exact resVB (pv_4 (bne_F (by assumption)) hz (by assumption)) rfl rfl)
    | skip
theorem xk27 (n:Nat):FOk Tryz.prog T 27 (spPV [.i .i64,.i .i64,.i .i64,.s,.l 33,.l 9,.l 91] n (pvS n)) :=
  xv27 n (fun s k=>parF s n k) (fun s hs=>wf_par hs n 0 (Int.le_refl _) (by omega)) (fun s hs=>by
    have h:=parF_pos s n 0 (Int.le_refl _) (by omega)
    show wRow (parF s n 0).1≤1099511627776
    rcases h with h|h
    · omega
    · omega) (xpar88 n)
end Go.Proofs.YtppgalpldaibhaaGreatDoor.Ab
