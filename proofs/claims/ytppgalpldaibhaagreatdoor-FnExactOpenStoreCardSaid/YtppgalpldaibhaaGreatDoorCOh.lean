/- Records read at a place by both, exactly: printed by a program of this claim. -/
import Derived.Test.YtppgalpldaibhaaGreatDoorCOg
import Derived.Test.YtppgalpldaibhaaGreatDoorCPB
import Derived.Test.YtppgalpldaibhaaGreatDoorCFq
import Derived.Test.YtppgalpldaibhaaGreatDoorCFn
namespace Go.Proofs.YtppgalpldaibhaaGreatDoor.Ab
open Go.RowKit
set_option linter.unusedVariables false
set_option linter.unusedSimpArgs false
set_option maxRecDepth 100000
set_option maxHeartbeats 2000000
noncomputable abbrev spRecT:FSpec:=spTx T [.i .i64,.i .i64,.i .i64,.l 3,.i .i64,.i .i64,.i .i64,.i .i64,.i .i64,.s,.s,.i .i64,.s,.s,.i .i64,.i .i64,.l 118] SmO (fun a=>recT (opText a))
theorem okR46:FOk Tryz.prog T 46 spRecT:=ok46 opText (fun a h=>opText_le h) ok66
theorem okR45:FOk Tryz.prog T 45 spRecT:=ok45 opText (fun a h=>opText_le h) ok47
set_option maxHeartbeats 8000000 in
theorem xo37 (po:ByteArray→List D × Bool) (hw:PoOk po) (hpo:FOk Tryz.prog T 32 (spPV2 cO po)):FOk Tryz.prog T 37 (spPR cO (recS po)):=by
  refine fok (env:=envL [(84,spIn),(32,(spPV2 cO po)),(46,spRecT)]) (N:=79) tabT (envL_cons ok84 (envL_cons hpo (envL_cons okR46 envL_nil))) mixed Tryz.func37 rfl Tryz.call37 Tryz.ntmps37 ?_
  rintro args ⟨s,k,hs,rfl⟩ hwf'
  clear hwf'
  refine ⟨by simp,?_⟩
  rw [Tryz.results37]
  repeat' first
    | (refine And.intro ?_ ?_)
    | (intro h;simp only [reduceCtorEq] at h;done)
    | (intro h;rw [h])
    | (intro h)
  all_goals first
    | (show lowEdges _=true;kernel_rfl)|(show logOk _ _=true;kernel_rfl)|exact True.intro|exact Or.inr rfl|exact Or.inl rfl
    | exact rfl
    | exact ⟨_,_,_,rfl⟩
    | exact resVP (p:=(zeroOp,0)) (recS_out (by assumption)) rfl rfl
    | skip
  obtain ⟨n,rfl,hn⟩:=inR_nat (by assumption)
  refine awp_loop (Q:=_) [0,1,4,6] [4] (fun m st=>∃ e f:Nat,st=([sArg s,iArg (n:Int),.ptr 4 1 0,iArg (e:Int)],[(1,[.val false [.i .i64 0],.val false [.i .i64 0],.val false [.i .i64 0],.val false [.sl true 3 []],.val false [.i .i64 0],.val false [.i .i64 0],.val false [.i .i64 0],.val false [.i .i64 0],.val false [.i .i64 0],.val false [.s ByteArray.empty],.val false [.s ByteArray.empty],.val false [.i .i64 0],.val false [.s ByteArray.empty],.val false [.s ByteArray.empty],.val false [.i .i64 0],.val false [.i .i64 0],.val false [.sl true 118 []]])])∧n≤e∧e≤s.size∧s.size≤e+f∧eolN s f e=eolK s n∧m=s.size - e) ?_ ?_
  · exact ⟨rfl,s.size - n,n,s.size,rfl,Nat.le_refl _,hn,by omega,rfl,rfl⟩
  rintro m st ⟨e,f,rfl,h1,h2,h3,hE,rfl⟩
  repeat' first
    | (refine And.intro ?_ ?_)
    | (intro h;simp only [reduceCtorEq] at h;done)
    | (intro h;rw [h])
    | (intro h)
  all_goals first
    | (show lowEdges _=true;kernel_rfl)|(show logOk _ _=true;kernel_rfl)|exact True.intro|exact Or.inr rfl|exact Or.inl rfl
    | exact rfl
    | with_reducible exact Int.natCast_nonneg _
    | exact of_decide_eq_true (by with_reducible assumption)
    | (have hlt:e < s.size:=by have:=of_decide_eq_true (show decide ((e:Int) < (s.size:Int))=true by assumption);omega
       obtain ⟨g,rfl,hg⟩:=eolN_go hlt (ne10 (by assumption)) h3
       refine ⟨s.size - (e+1),by omega,e+1,g,?_,by omega,by omega,by omega,by rw [← hg];exact hE,rfl⟩
       exact snapZ (f:=fun z=>(([sArg s,iArg (n:Int),.ptr 4 1 0,iArg z],[(1,[.val false [.i .i64 0],.val false [.i .i64 0],.val false [.i .i64 0],.val false [.sl true 3 []],.val false [.i .i64 0],.val false [.i .i64 0],.val false [.i .i64 0],.val false [.i .i64 0],.val false [.i .i64 0],.val false [.s ByteArray.empty],.val false [.s ByteArray.empty],.val false [.i .i64 0],.val false [.s ByteArray.empty],.val false [.s ByteArray.empty],.val false [.i .i64 0],.val false [.i .i64 0],.val false [.sl true 118 []]])]):Snap)) (wrapN (n:=s.size) hlt (by simp only [maxLen];omega)))
    | skip
  all_goals
    have hEe:eolK s n=e:=by
      rw [← hE]
      refine eolN_stop ?_
      rintro ⟨a1,a2⟩
      first
        | (have:=of_decide_eq_false (show decide ((e:Int) < (s.size:Int))=false by assumption);omega)
        | exact a2 (is10 (by assumption))
    refine awp_loop (Q:=_) [0,1,4,6,7] [4] (fun m st=>∃ p:Nat,st=([sArg s,iArg (n:Int),.ptr 4 1 0,iArg (e:Int),iArg (p:Int)],[(1,[.val false [.i .i64 0],.val false [.i .i64 0],.val false [.i .i64 0],.val false [.sl true 3 []],.val false [.i .i64 0],.val false [.i .i64 0],.val false [.i .i64 0],.val false [.i .i64 0],.val false [.i .i64 0],.val false [.s ByteArray.empty],.val false [.s ByteArray.empty],.val false [.i .i64 0],.val false [.s ByteArray.empty],.val false [.s ByteArray.empty],.val false [.i .i64 0],.val false [.i .i64 0],.val false [.sl true 118 []]])])∧n≤p∧p≤e∧spN s n p=spN s n e∧m=p) ?_ ?_
    · exact ⟨rfl,e,e,rfl,h1,Nat.le_refl _,rfl,rfl⟩
    rintro m st ⟨p,rfl,h4,h5,hP,hm⟩
    repeat' first
      | (refine And.intro ?_ ?_)
      | (intro h;simp only [reduceCtorEq] at h;done)
      | (intro h;rw [h])
      | (intro h)
    all_goals first
      | (show lowEdges _=true;kernel_rfl)|(show logOk _ _=true;kernel_rfl)|exact True.intro|exact Or.inr rfl|exact Or.inl rfl
      | exact rfl
      | (have hlt:n < p:=by have:=of_decide_eq_true (show decide ((p:Int) > (n:Int))=true by assumption);omega
         first
           | (rw [wrapD hlt (by omega)];exact Int.natCast_nonneg _)
           | (rw [wrapD hlt (by omega)];omega)
           | (have hg:=spN_go hlt (ne32 hlt (by omega) (by assumption))
              refine ⟨p - 1,by omega,p - 1,?_,by omega,by omega,by rw [← hg];exact hP,rfl⟩
              exact snapZ (f:=fun z=>(([sArg s,iArg (n:Int),.ptr 4 1 0,iArg (e:Int),iArg z],[(1,[.val false [.i .i64 0],.val false [.i .i64 0],.val false [.i .i64 0],.val false [.sl true 3 []],.val false [.i .i64 0],.val false [.i .i64 0],.val false [.i .i64 0],.val false [.i .i64 0],.val false [.i .i64 0],.val false [.s ByteArray.empty],.val false [.s ByteArray.empty],.val false [.i .i64 0],.val false [.s ByteArray.empty],.val false [.s ByteArray.empty],.val false [.i .i64 0],.val false [.i .i64 0],.val false [.sl true 118 []]])]):Snap)) (wrapD hlt (by omega))))
      | skip
    all_goals
      have hPp:spK s n=p:=by
        show spN s n (eolK s n)=p
        rw [hEe, ← hP]
        refine spN_stop h4 ?_
        rintro ⟨a1,a2⟩
        first
          | (have:=of_decide_eq_false (show decide ((p:Int) > (n:Int))=false by assumption);omega)
          | exact a2 (is32 a1 (by omega) (by assumption))
      have hR:recS po s (n:Int)=recN po s n e p:=recS_in hn hEe hPp
      first
        | exact resVP (hR.trans (recN_1 (by assumption))) rfl rfl
        | exact resVP (hR.trans (recN_2 (by assumption))) rfl rfl
        | with_reducible exact Int.natCast_nonneg _
        | (have g1:((e:Int) == (s.size:Int))=false:=by assumption
           have g2:((p:Int) == (n:Int))=false:=by assumption
           have g3:=beq_eq_false_iff_ne.1 g1
           have g4:=beq_eq_false_iff_ne.1 g2
           have hlt:n < p:=by omega
           rw [wrapD hlt (by omega)] at *
           first
             | (rw [wrap1 (by omega)];omega)
             | omega
             | (have hxs:(s.extract (Int.toNat (n:Int)) (Int.toNat ((p - 1:Nat):Int))).size≤1048576:=by rw [ByteArray.size_extract];omega
                generalize hX:s.extract (Int.toNat (n:Int)) (Int.toNat ((p - 1:Nat):Int))=x at *
                have hX' : x=s.extract n (p - 1):=hX.symm
                obtain ⟨wo,so⟩:=hw x hxs
                have w7:csD (rowC cO (po x).1)=(po x).1:=csD_rowC wo
                have hY:s.extract (Int.toNat (n:Int)) (Int.toNat (IntKind.i64.wrap ((e:Int)+1)))=s.extract n (e+1):=by rw [wrap1 (by omega)];rfl
                first
                  | exact ⟨_,hxs,rfl⟩
                  | exact ⟨_,wo,so,rfl⟩
                  | exact resVP (hR.trans (recN_3 hX' (by assumption))) rfl rfl
                  | (have hz:(!(recT (opText (po x).1)).toList == (s.extract (Int.toNat (n:Int)) (Int.toNat (IntKind.i64.wrap ((e:Int)+1)))).toList)=true:=by rw [← w7];assumption
                     exact resVP (hR.trans (recN_4 hX' hY hz)) rfl rfl)
                  | (have hz:(!(recT (opText (po x).1)).toList == (s.extract (Int.toNat (n:Int)) (Int.toNat (IntKind.i64.wrap ((e:Int)+1)))).toList)=false:=by rw [← w7];assumption
                     exact resVP (hR.trans (recN_5 g1 g2 hX' hY (by assumption) hz)) rfl (wrapE h1 (by omega)))))
        | skip
  skip
end Go.Proofs.YtppgalpldaibhaaGreatDoor.Ab
