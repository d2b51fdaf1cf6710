/- A part. -/
import Derived.Test.YtdjfhmghebommaaGreatDoorDWo
import Derived.Test.YtdjfhmghebommaaGreatDoorDOi
namespace Go.Proofs.YtdjfhmghebommaaGreatDoor.Ab
open Go.RowKit
set_option linter.all false
set_option maxRecDepth 100000
set_option maxHeartbeats 8000000
def lQ (cts:List CT) (rc:ByteArray→Int→List D × Int):FSpec where
 pre args:=∃ (s:ByteArray) (k:Int),s.size≤1048576∧args=[sArg s,iArg k]
 res args:=match args with
  | [.val _ [.s s],.val _ [.i _ k]]=>.tup [(true,rowO cts (rc s k).1),(false,[.i .i64 (rc s k).2])]
  | _=>.none
theorem j7 {cts:List CT} {p q:List D × Int} {cs:List CV} {e:Int} (h:q=p) (hc:cs=rowO cts p.1) (he:e=p.2):[(true,cs),(false,[CV.i .i64 e])]=[(true,rowO cts q.1),(false,[CV.i .i64 q.2])]:=by
 subst h hc he;rfl
theorem jaB {cts:List CT} {po:ByteArray→List D × Bool} {t:ByteArray} (h:t.size≤1048576):(dt cts po).pre [.val false [.s t]]:=⟨t,h,rfl⟩
theorem zd37:FOk Tryz.prog Td 37 spCut:=FOk.on true okCut (fun args h=>by obtain ⟨s,_,rfl⟩:=h;rfl) (fun hb=>by cases hb)
theorem zd38:FOk Tryz.prog Td 38 spLast:=FOk.on true okLast (fun args h=>by obtain ⟨s,_,rfl⟩:=h;rfl) (fun hb=>by cases hb)
theorem zd39:FOk Tryz.prog Td 39 { mQ with nr:=true }:=(FOk.on true okR39 (fun args h=>by obtain ⟨a,_,_,rfl⟩:=h;rfl) (fun hb=>by cases hb)).lends
theorem zo12 (po:ByteArray→List D × Bool) (hw:PoOk po) (hpo:FOk Tryz.prog Td 7 (dt cO po)):FOk Tryz.prog Td 12 (lQ cO (recI po)):=by
 refine fok (env:=envL [(37,spCut),(38,spLast),(7,(dt cO po)),(39, { mQ with nr:=true })]) (N:=59) il (ay zd37 (ay zd38 (ay hpo (ay zd39 bU)))) mixed Tryz.func12 rfl Tryz.call12 Tryz.ntmps12 ?_
 rintro args ⟨s,k,hs,rfl⟩ hwf'
 clear hwf'
 refine ⟨by simp,?_⟩
 rw [Tryz.results12]
 repeat' first
  | refine And.intro ?_ ?_
  | (intro h;simp only [reduceCtorEq] at h;done)
  | (intro h;rw [h])
  | intro h
 all_goals first
  | (show aa _=true;kernel_rfl)|(show am _ _=true;kernel_rfl)|exact True.intro|exact Or.inr rfl|exact Or.inl rfl
  | exact rfl
  | exact j7 (p:=(bw,0)) (jav (by with_reducible assumption)) rfl rfl
  | exact j7 (p:=(bw,0)) (jau (by with_reducible assumption)) rfl rfl
  | (obtain ⟨n, rfl, hn⟩:=uZ (k:=k) (s:=s) (by with_reducible assumption) (by with_reducible assumption)
     first
      | with_reducible exact jb2 _
      | omega
      | (have hts : (s.extract (Int.toNat (n:Int)) (Int.toNat (s.size:Int))).size≤1048576:=by rw [jcd];omega
         generalize hT:s.extract (Int.toNat (n:Int)) (Int.toNat (s.size:Int))=t at *
         have hI:recI po s (n:Int)=iH po (cutL t) (cutF t) (Lib.lastIndexByte (cutL t) 32):=xV hn hT.symm
         have hcl:=nO t
         first
          | with_reducible exact jaC hts
          | with_reducible exact xY (jbV hcl hts)
          | exact j7 (hI.trans (yp (by with_reducible assumption))) rfl rfl
          | exact j7 (hI.trans (yo (by with_reducible assumption))) rfl rfl
          | (have hj:decide (Lib.lastIndexByte (cutL t) 32 < 0)=false:=by with_reducible assumption
             have hj2:=jbZ hj
             have hli:=tu (cutL t)
             first
              | omega
              | (show (cutL t).size+1≤maxLen;simp only [maxLen];omega)
              | (have hxs:((cutL t).extract (Int.toNat 0) (Int.toNat (Lib.lastIndexByte (cutL t) 32))).size≤1048576:=by rw [jcd];omega
                 generalize hX:(cutL t).extract (Int.toNat 0) (Int.toNat (Lib.lastIndexByte (cutL t) 32))=x at *
                 obtain ⟨wo,so⟩:=hw x hxs
                 have w7:csD (rowC cO (po x).1)=(po x).1:=au wo
                 first
                  | with_reducible exact jaB hxs
                  | exact ⟨_,wo,so,rfl⟩
                  | exact j7 (hI.trans (yn hX.symm (by with_reducible assumption))) rfl rfl
                  | (have hz:(!(recT (aZ (po x).1)).toList == (cutL t++NL).toList)=true:=by rw [← w7];assumption
                     exact j7 (hI.trans (ym hX.symm hz)) rfl rfl)
                  | (have hz:(!(recT (aZ (po x).1)).toList == (cutL t++NL).toList)=false:=by rw [← w7];assumption
                     exact j7 (hI.trans (yl (by with_reducible assumption) hj hX.symm (by with_reducible assumption) hz)) rfl (xl (by omega)))))))
  | (rw [jcF.1 h];exact True.intro)
  | exact (show (7:Nat)≤1024 by decide)
  | exact (show (17:Nat)≤1024 by decide)
  | skip
end Go.Proofs.YtdjfhmghebommaaGreatDoor.Ab
