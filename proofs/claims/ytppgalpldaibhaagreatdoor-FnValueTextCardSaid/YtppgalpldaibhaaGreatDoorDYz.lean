/- The program's reading of values as a whole: the readers put together. No program in sight. The program's ParseValue, exactly: printed by a program of this claim. -/
import Derived.Test.YtppgalpldaibhaaGreatDoorDYx
import Derived.Test.YtppgalpldaibhaaGreatDoorDYy
namespace Go.Proofs.YtppgalpldaibhaaGreatDoor.Ab
open Go.RowKit
set_option linter.unusedVariables false
variable {T:Tab} {P:Program}
theorem FOk.rd2 {f:FuncId} {cts:List CT} {va vb vc:ByteArray→Int→Bool→Rd3} (h0:FOk P T f (spRdD cts 0 va)) (h2:FOk P T f (spRdD cts 2 vb)) (h3:FOk P T f (spRdD cts 3 vc)):FOk P T f (spRdD2 cts va vb vc):=by
  refine ⟨h0.call,fun _ _ w X b ob cs args vals a1 a2 a3 a4 a5 a6 a7 a8 hpre=>?_,fun hb=>(by cases hb),fun _ hb=>(by cases hb)⟩
  obtain ⟨s,k,bb,d,hp,hd,he⟩:=hpre
  rcases hd with rfl|rfl|rfl
  · have:=h0.okb rfl rfl w X b ob cs args vals a1 a2 a3 a4 a5 a6 a7 a8 ⟨s,k,bb,0,hp,rfl,he⟩
    rw [he] at this ⊢
    exact this
  · have:=h2.okb rfl rfl w X b ob cs args vals a1 a2 a3 a4 a5 a6 a7 a8 ⟨s,k,bb,2,hp,rfl,he⟩
    rw [he] at this ⊢
    exact this
  · have:=h3.okb rfl rfl w X b ob cs args vals a1 a2 a3 a4 a5 a6 a7 a8 ⟨s,k,bb,3,hp,rfl,he⟩
    rw [he] at this ⊢
    exact this
theorem val_in {s:ByteArray} {k:Int} {b:Bool} (d:Nat) (h:PosIn s k):PosIn s (valI s d k b).2.1:=(valI_pos s d k b h.2.1 h.2.2).in_ h
theorem val_w {s:ByteArray} {k:Int} {b:Bool} (d:Nat) (hd:d≤100) (h:PosIn s k):wRow (valI s d k b).1≤4194304:=by
  have a:=valI_pos s d k b h.2.1 h.2.2
  have:=a.2.2.2
  have:=a.1
  have:=a.2.1
  have:=h.1
  have:=h.2.1
  omega
theorem num_in {s:ByteArray} {k:Int} {b:Bool} (h:PosIn s k):PosIn s (numIR s k b).2.1:=(numI_pos b 0 h.2.1 h.2.2).in_ h
theorem val0_t {s:ByteArray} {k:Int} {b:Bool} (h:PosIn s k):((valI s 0 k b).1.getD 3 default).str.size≤1048576:=by
  have:=h.1
  unfold valI
  split
  · split
    · exact Nat.zero_le _
    · show (quoP s k).1.size≤_
      rcases quoP_pos h.2.1 h.2.2 with h1|h1
      · rw [h1.2];exact Nat.zero_le _
      · have:=h.2.1;omega
  · exact Nat.zero_le _
theorem whole_w {s:ByteArray} (hs:s.size≤1048576):wRow (wholeI s).1≤WM:=by
  have hp:∀ k:Int,0≤k→k≤s.size→PosIn s k:=fun k h0 h=>⟨hs,h0,h⟩
  show wRow (wholeI s).1≤1099511627776
  unfold wholeI
  split
  · rw [w7];simp only [wRows,List.length_nil];decide
  split
  · show wRow (vStr _ _)≤_
    rw [w7];simp only [wRows,List.length_nil];decide
  split
  · rename_i hb
    have hb:=stB_le hb
    have e:(TBO.size:Int)=6:=rfl
    have p6:PosIn s 6:=hp 6 (by decide) (by omega)
    have t:=val0_t (b:=true) p6
    have pa:=val_in (b:=true) 0 p6
    have pb:=pa.andK (valI s 0 6 true).2.2 COMMA
    have wb:=val_w (b:=andB s (valI s 0 6 true).2.1 (valI s 0 6 true).2.2 COMMA) 2 (by decide) pb
    show wRow (vTbl _ _)≤_
    rw [w7,List.length_map]
    have h1:=words_w ((valI s 0 6 true).1.getD 3 default).str
    have h2:=w_rowsOf (lst (valI s 2 (andK s (valI s 0 6 true).2.1 (valI s 0 6 true).2.2 COMMA) (andB s (valI s 0 6 true).2.1 (valI s 0 6 true).2.2 COMMA)).1)
    have h3:=wRows_cell (valI s 2 (andK s (valI s 0 6 true).2.1 (valI s 0 6 true).2.2 COMMA) (andB s (valI s 0 6 true).2.1 (valI s 0 6 true).2.2 COMMA)).1 4
    generalize valI s 2 (andK s (valI s 0 6 true).2.1 (valI s 0 6 true).2.2 COMMA) (andB s (valI s 0 6 true).2.1 (valI s 0 6 true).2.2 COMMA)=r at *
    generalize ((valI s 0 6 true).1.getD 3 default).str=tt at *
    have e0:ES.size=0:=rfl
    have e1:lst r.1=(r.1.getD 4 default).rows:=rfl
    rw [e1] at h2 ⊢
    rw [e0]
    simp only [wRows,List.length_nil]
    omega
  · exact Nat.le_trans (val_w 3 (by decide) (hp 0 (Int.le_refl _) (Int.natCast_nonneg _))) (by decide)
end Go.Proofs.YtppgalpldaibhaaGreatDoor.Ab
namespace Go.Proofs.YtppgalpldaibhaaGreatDoor.Ab
open Go.RowKit
set_option linter.unusedVariables false
set_option linter.unusedSimpArgs false
set_option maxRecDepth 100000
set_option maxHeartbeats 2000000
theorem wf_whole {s:ByteArray} (hs:s.size≤1048576):WfRow T cV (wholeI s).1:=by
  have hp:∀ k:Int,0≤k→k≤s.size→PosIn s k:=fun k h0 h=>⟨hs,h0,h⟩
  unfold wholeI
  split
  · refine wfErr ?_
    rw [errI_eq];exact errC_in _
  split
  · exact wfStr (wf_int (wf_num _ _ _)) (wf_int (wf_num _ _ _))
  split
  · rename_i hb
    have hb:=stB_le hb
    have e:(TBO.size:Int)=6:=rfl
    have p6:PosIn s 6:=hp 6 (by decide) (by omega)
    have pb:=(val_in (b:=true) 0 p6).andK (valI s 0 6 true).2.2 COMMA
    have w2:=wf_val hs 2 (by decide) _ (andB s (valI s 0 6 true).2.1 (valI s 0 6 true).2.2 COMMA) pb.2.1 pb.2.2
    refine wfTbl (val0_t p6) (w2.rows (j:=4) rfl).len fun r hr=>wf_lst w2 hr
  · exact wf_val hs 3 (by decide) 0 true (Int.le_refl _) (Int.natCast_nonneg _)
theorem xk78:FOk Tryz.prog T 78 (spRdW [.i .i64,.i .i64,.i .i64,.s,.l 33,.l 9,.l 91] wholeI) :=
  xw78 numIR (fun s k b=>valI s 0 k b) (fun s k b=>valI s 2 k b) (fun s k b=>valI s 3 k b) (fun s k b h=>num_in h) (fun s k b h=>val_in 0 h) (fun s k b h=>val_in 2 h)
    (fun s k b h=>⟨wf_val h.1 0 (by decide) k b h.2.1 h.2.2,val_w 0 (by decide) h⟩) (fun s k b h=>⟨wf_val h.1 2 (by decide) k b h.2.1 h.2.2,val_w 2 (by decide) h⟩) (fun s k b h=>val0_t h) xk154
    (FOk.rd2 (xval156 0 (by decide)) (xval156 2 (by decide)) (xval156 3 (by decide)))
theorem xv21 (n:Nat) (wh:ByteArray→Rd3) (hwf:∀ s,s.size≤1048576→WfRow T cV (wh s).1) (hwt:∀ s,s.size≤1048576→wRow (wh s).1≤WM) (hp:FOk Tryz.prog T 78 (spRdW [.i .i64,.i .i64,.i .i64,.s,.l 33,.l 9,.l 91] wh)):FOk Tryz.prog T 21 (spPV [.i .i64,.i .i64,.i .i64,.s,.l 33,.l 9,.l 91] n (fun s=>pvOf (wh s).1 ((wh s).2.2 && (wh s).2.1 == (s.size:Int)) s)):=by
  refine fok (env:=envL [(78,(spRdW [.i .i64,.i .i64,.i .i64,.s,.l 33,.l 9,.l 91] wh)),(20,(spGT T [.i .i64,.i .i64,.i .i64,.s,.l 33,.l 9,.l 91] SmM fmtO))]) (N:=37) tabT (envL_cons hp (envL_cons xk20 envL_nil)) mixed Tryz.func21 rfl Tryz.call21 Tryz.ntmps21 ?_
  rintro args ⟨s,hs,hn,rfl⟩ hwf'
  clear hwf'
  have w:=hwf s hs
  have wt:=hwt s hs
  have w7:csD (rowC [.i .i64,.i .i64,.i .i64,.s,.l 33,.l 9,.l 91] (wh s).1)=(wh s).1:=csD_rowC w
  refine ⟨by simp,?_⟩
  rw [Tryz.results21]
  repeat' first
    | (refine And.intro ?_ ?_)
    | (intro h;simp only [reduceCtorEq] at h;done)
    | (intro h;rw [h])
    | (intro h)
  all_goals first
    | (show lowEdges _=true;kernel_rfl)|(show logOk _ _=true;kernel_rfl)|exact True.intro|exact Or.inr rfl|exact Or.inl rfl
    | exact rfl
    | exact ⟨_,hs,rfl⟩
    | exact ⟨_,w,wt,rfl⟩
    | exact resVB (pv_1 (by rw [of_notT (show (!(wh s).2.2)=true by assumption)];rfl)) rfl rfl
    | (have hok:(wh s).2.2=true:=of_notF (by assumption)
       first
         | exact resVB (pv_1 (by rw [hok,bne_T (show ((wh s).2.1 != (s.size:Int))=true by assumption)];rfl)) rfl rfl
         | (have hat:((wh s).2.1 == (s.size:Int))=true:=bne_F (by assumption)
            first
              | exact resVB (pv_3 (by assumption)) rfl rfl
              | (have hz:(!(fmtO (wh s).1).toList == s.toList)=true:=(by rw [← w7];assumption)
                 exact resVB (pv_2 hz) rfl rfl)
              | (have hz:(!(fmtO (wh s).1).toList == s.toList)=false:=(by rw [← w7];assumption)
                 exact resVB (pv_4 (by rw [hok,hat];rfl) hz (by assumption)) rfl rfl)))
    | skip
theorem xk21 (n:Nat):FOk Tryz.prog T 21 (spPV [.i .i64,.i .i64,.i .i64,.s,.l 33,.l 9,.l 91] n pvI):=xv21 n wholeI (fun s hs=>wf_whole hs) (fun s hs=>whole_w hs) xk78
end Go.Proofs.YtppgalpldaibhaaGreatDoor.Ab
