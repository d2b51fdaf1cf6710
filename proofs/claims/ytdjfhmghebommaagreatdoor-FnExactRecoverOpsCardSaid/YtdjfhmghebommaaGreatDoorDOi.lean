/- A part. -/
import Derived.Test.YtdjfhmghebommaaGreatDoorDOb
namespace Go.Proofs.YtdjfhmghebommaaGreatDoor.Ab
open Go.RowKit
set_option linter.all false
set_option maxRecDepth 100000
set_option maxHeartbeats 2000000
noncomputable abbrev mQ:FSpec:=spTx T cO SmO (fun a=>recT (aZ a))
theorem okR36:FOk Tryz.prog T 36 mQ:=ok36 aZ (fun a h=>nd h) ok22
theorem okR39:FOk Tryz.prog T 39 mQ:=ok39 aZ (fun a h=>nd h) ok27
set_option maxHeartbeats 8000000 in
theorem xo11 (po:ByteArray→List D × Bool) (hw:PoOk po) (hpo:FOk Tryz.prog T 6 (iv cO po)):FOk Tryz.prog T 11 (spPR cO (recS po)):=by
 refine fok (env:=envL [(35,spIn),(6,(iv cO po)),(36,mQ)]) (N:=79) tabT (ac ok35 (ac hpo (ac okR36 af))) mixed Tryz.func11 rfl Tryz.call11 Tryz.ntmps11 ?_
 rintro args ⟨s,k,hs,rfl⟩ hwf'
 clear hwf'
 refine ⟨by simp,?_⟩
 rw [Tryz.results11]
 repeat' first
  | refine And.intro ?_ ?_
  | (intro h;simp only [reduceCtorEq] at h;done)
  | (intro h;rw [h])
  | intro h
 all_goals first
  | (show aa _=true;kernel_rfl)|(show am _ _=true;kernel_rfl)|exact True.intro|exact Or.inr rfl|exact Or.inl rfl
  | exact rfl
  | exact ⟨_,_,_,rfl⟩
  | exact qJ (p:=(bw,0)) (uY (by assumption)) rfl rfl
  | skip
 obtain ⟨n,rfl,hn⟩:=yz (by assumption)
 refine ap (Q:=_) [0,1,4,6] [4] (fun m st=>∃ e f:Nat,st=([sArg s,iArg (n:Int),.ptr 4 1 0,iArg (e:Int)],[(1,[.val false [.i .i64 0],.val false [.i .i64 0],.val false [.i .i64 0],.val false [.sl true 3 []],.val false [.i .i64 0],.val false [.i .i64 0],.val false [.i .i64 0],.val false [.i .i64 0],.val false [.i .i64 0],.val false [.s ByteArray.empty],.val false [.s ByteArray.empty],.val false [.i .i64 0],.val false [.s ByteArray.empty],.val false [.s ByteArray.empty],.val false [.i .i64 0],.val false [.i .i64 0],.val false [.sl true 55 []]])])∧n≤e∧e≤s.size∧s.size≤e+f∧eolN s f e=eolK s n∧m=s.size - e) ?_ ?_
 · exact ⟨rfl,s.size - n,n,s.size,rfl,jb4 _,hn,by omega,rfl,rfl⟩
 rintro m st ⟨e,f,rfl,h1,h2,h3,hE,rfl⟩
 repeat' first
  | refine And.intro ?_ ?_
  | (intro h;simp only [reduceCtorEq] at h;done)
  | (intro h;rw [h])
  | intro h
 all_goals first
  | (show aa _=true;kernel_rfl)|(show am _ _=true;kernel_rfl)|exact True.intro|exact Or.inr rfl|exact Or.inl rfl
  | exact rfl
  | with_reducible exact jb2 _
  | exact jbO (by with_reducible assumption)
  | (have hlt:e < s.size:=by have:=jbO (show decide ((e:Int) < (s.size:Int))=true by assumption);omega
     obtain ⟨g,rfl,hg⟩:=yH hlt (ne10 (by assumption)) h3
     refine ⟨s.size - (e+1),by omega,e+1,g,?_,by omega,by omega,by omega,by rw [← hg];exact hE,rfl⟩
     exact jab (f:=fun z=>(([sArg s,iArg (n:Int),.ptr 4 1 0,iArg z],[(1,[.val false [.i .i64 0],.val false [.i .i64 0],.val false [.i .i64 0],.val false [.sl true 3 []],.val false [.i .i64 0],.val false [.i .i64 0],.val false [.i .i64 0],.val false [.i .i64 0],.val false [.i .i64 0],.val false [.s ByteArray.empty],.val false [.s ByteArray.empty],.val false [.i .i64 0],.val false [.s ByteArray.empty],.val false [.s ByteArray.empty],.val false [.i .i64 0],.val false [.i .i64 0],.val false [.sl true 55 []]])]):Snap)) (wrapN (n:=s.size) hlt (by simp only [maxLen];omega)))
  | skip
 all_goals
  have hEe:eolK s n=e:=by
   rw [← hE]
   refine tV ?_
   rintro ⟨a1,a2⟩
   first
    | (have:=jbZ (show decide ((e:Int) < (s.size:Int))=false by assumption);omega)
    | exact a2 (is10 (by assumption))
  refine ap (Q:=_) [0,1,4,6,7] [4] (fun m st=>∃ p:Nat,st=([sArg s,iArg (n:Int),.ptr 4 1 0,iArg (e:Int),iArg (p:Int)],[(1,[.val false [.i .i64 0],.val false [.i .i64 0],.val false [.i .i64 0],.val false [.sl true 3 []],.val false [.i .i64 0],.val false [.i .i64 0],.val false [.i .i64 0],.val false [.i .i64 0],.val false [.i .i64 0],.val false [.s ByteArray.empty],.val false [.s ByteArray.empty],.val false [.i .i64 0],.val false [.s ByteArray.empty],.val false [.s ByteArray.empty],.val false [.i .i64 0],.val false [.i .i64 0],.val false [.sl true 55 []]])])∧n≤p∧p≤e∧spN s n p=spN s n e∧m=p) ?_ ?_
  · exact ⟨rfl,e,e,rfl,h1,jb4 _,rfl,rfl⟩
  rintro m st ⟨p,rfl,h4,h5,hP,hm⟩
  repeat' first
   | refine And.intro ?_ ?_
   | (intro h;simp only [reduceCtorEq] at h;done)
   | (intro h;rw [h])
   | intro h
  all_goals first
   | (show aa _=true;kernel_rfl)|(show am _ _=true;kernel_rfl)|exact True.intro|exact Or.inr rfl|exact Or.inl rfl
   | exact rfl
   | (have hlt:n < p:=by have:=jbO (show decide ((p:Int) > (n:Int))=true by assumption);omega
      first
       | (rw [qt hlt (by omega)];exact jb2 _)
       | (rw [qt hlt (by omega)];omega)
       | (have hg:=zO hlt (ne32 hlt (by omega) (by assumption))
          refine ⟨p - 1,by omega,p - 1,?_,by omega,by omega,by rw [← hg];exact hP,rfl⟩
          exact jab (f:=fun z=>(([sArg s,iArg (n:Int),.ptr 4 1 0,iArg (e:Int),iArg z],[(1,[.val false [.i .i64 0],.val false [.i .i64 0],.val false [.i .i64 0],.val false [.sl true 3 []],.val false [.i .i64 0],.val false [.i .i64 0],.val false [.i .i64 0],.val false [.i .i64 0],.val false [.i .i64 0],.val false [.s ByteArray.empty],.val false [.s ByteArray.empty],.val false [.i .i64 0],.val false [.s ByteArray.empty],.val false [.s ByteArray.empty],.val false [.i .i64 0],.val false [.i .i64 0],.val false [.sl true 55 []]])]):Snap)) (qt hlt (by omega))))
   | skip
  all_goals
   have hPp:spK s n=p:=by
    show spN s n (eolK s n)=p
    rw [hEe, ← hP]
    refine uQ h4 ?_
    rintro ⟨a1,a2⟩
    first
     | (have:=jbZ (show decide ((p:Int) > (n:Int))=false by assumption);omega)
     | exact a2 (is32 a1 (by omega) (by assumption))
   have hR:recS po s (n:Int)=recN po s n e p:=xU hn hEe hPp
   first
    | exact qJ (hR.trans (jat (by assumption))) rfl rfl
    | exact qJ (hR.trans (jas (by assumption))) rfl rfl
    | with_reducible exact jb2 _
    | (have g1:((e:Int) == (s.size:Int))=false:=by assumption
       have g2:((p:Int) == (n:Int))=false:=by assumption
       have g3:=beq_eq_false_iff_ne.1 g1
       have g4:=beq_eq_false_iff_ne.1 g2
       have hlt:n < p:=by omega
       rw [qt hlt (by omega)] at *
       first
        | (rw [xl (by omega)];omega)
        | omega
        | (have hxs:(s.extract (Int.toNat (n:Int)) (Int.toNat ((p - 1:Nat):Int))).size≤1048576:=by rw [jcd];omega
           generalize hX:s.extract (Int.toNat (n:Int)) (Int.toNat ((p - 1:Nat):Int))=x at *
           have hX' : x=s.extract n (p - 1):=hX.symm
           obtain ⟨wo,so⟩:=hw x hxs
           have w7:csD (rowC cO (po x).1)=(po x).1:=au wo
           have hY:s.extract (Int.toNat (n:Int)) (Int.toNat (IntKind.i64.wrap ((e:Int)+1)))=s.extract n (e+1):=by rw [xl (by omega)];rfl
           first
            | exact ⟨_,hxs,rfl⟩
            | exact ⟨_,wo,so,rfl⟩
            | exact qJ (hR.trans (jar hX' (by assumption))) rfl rfl
            | (have hz:(!(recT (aZ (po x).1)).toList == (s.extract (Int.toNat (n:Int)) (Int.toNat (IntKind.i64.wrap ((e:Int)+1)))).toList)=true:=by rw [← w7];assumption
               exact qJ (hR.trans (jaq hX' hY hz)) rfl rfl)
            | (have hz:(!(recT (aZ (po x).1)).toList == (s.extract (Int.toNat (n:Int)) (Int.toNat (IntKind.i64.wrap ((e:Int)+1)))).toList)=false:=by rw [← w7];assumption
               exact qJ (hR.trans (jap g1 g2 hX' hY (by assumption) hz)) rfl (wrapE h1 (by omega)))))
    | skip
 skip
section
variable {po:ByteArray→List D × Bool} {s t x y:ByteArray} {n:Nat} {k j:Int}
theorem jav (h:decide (k < 0)=true):recI po s k=(bw,0):=if_pos (.inl (jbO h))
theorem jau (h:decide (k ≥ (s.size:Int))=true):recI po s k=(bw,0):=if_pos (.inr (jbO h))
theorem uZ (h:decide (k < 0)=false) (h2:decide (k ≥ (s.size:Int))=false):∃ n:Nat,k=n∧n < s.size:=by
 have:=jbZ h
 have:=jbZ h2
 exact ⟨k.toNat,by omega,by omega⟩
theorem xV (hn:n < s.size) (ht:t=s.extract n s.size):recI po s (n:Int)=iH po (cutL t) (cutF t) (Lib.lastIndexByte (cutL t) 32):=by
 unfold recI
 rw [if_neg (by omega),jca,ht]
theorem yp {f:Bool} (h:(!f)=true):iH po x f j=(bw,0):=if_pos (.inl (aY h))
theorem yo {f:Bool} (h:decide (j < 0)=true):iH po x f j=(bw,0):=if_pos (.inr (jbO h))
theorem yn {f:Bool} (hy:y=x.extract 0 j.toNat) (h:(!(po y).2)=true):iH po x f j=(bw,0):=by
 unfold iH
 rw [← hy]
 split
 · rfl
 · rw [if_neg (fun c=>by rw [c.1] at h;cases h)]
theorem ym {f:Bool} (hy:y=x.extract 0 j.toNat) (h:(!(recT (aZ (po y).1)).toList == (x++NL).toList)=true):iH po x f j=(bw,0):=by
 unfold iH
 rw [← hy]
 split
 · rfl
 · rw [if_neg (fun c=>by rw [c.2] at h;simp at h)]
theorem yl {f:Bool} (h1:(!f)=false) (h2:decide (j < 0)=false) (hy:y=x.extract 0 j.toNat) (h3:(!(po y).2)=false) (h:(!(recT (aZ (po y).1)).toList == (x++NL).toList)=false):iH po x f j=((po y).1,((x.size+1:Nat):Int)):=by
 unfold iH
 rw [← hy]
 have a1:=aA h1
 have a2:=jbZ h2
 rw [if_neg (by rw [a1];simp;omega),if_pos ⟨aA h3,(aS _ _).mp (eq_of_beq (aA h))⟩]
end
theorem jaC {t:ByteArray} (h:t.size≤1048576):spCut.pre [.val false [.s t],.val false [.s NL]]:=⟨t,h,rfl⟩
theorem xY {t:ByteArray} (h:t.size≤1048576):spLast.pre [.val false [.s t],.val false [.i .u8 32]]:=⟨t,h,rfl⟩
end Go.Proofs.YtdjfhmghebommaaGreatDoor.Ab
