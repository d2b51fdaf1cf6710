/- The program's readers of values, exactly: printed by a program of this -/
import Derived.Test.YtkpnfbdoaljkpaaGreatDoorCYl
namespace Go.Proofs.YtkpnfbdoaljkpaaGreatDoor.Ab
open Go.RowKit
set_option linter.all false
set_option maxRecDepth 100000
set_option maxHeartbeats 2000000
theorem xk153:FOk Tryz.prog T 153 qO:=xB Tryz.call153 Tryz.strings_HasPrefix
theorem xT:FOk Tryz.prog T 157 oJ:=xz Tryz.call157 Tryz.strings_IndexByte
theorem xk156:FOk Tryz.prog T 156 (tG cV vNum):=by
 refine fok (env:=envL []) (N:=5) tabT ae mixed Tryz.func156 rfl Tryz.call156 Tryz.ntmps156 ?_
 rintro args ⟨n,rfl⟩ hwf
 refine ⟨by simp,?_⟩
 clear hwf
 rw [Tryz.results156]
 repeat' first
  | (refine And.intro ?_ ?_)
  | (intro h;simp only [reduceCtorEq] at h;done)
  | (intro h;rw [h])
  | (intro h)
 all_goals first
  | (show ac _=true;kernel_rfl)|(show aj _ _=true;kernel_rfl)|exact True.intro|exact Or.inr rfl|exact Or.inl rfl
  | exact rfl
  | skip
theorem xk107:FOk Tryz.prog T 107 (tG cV vErr):=by
 refine fok (env:=envL []) (N:=5) tabT ae mixed Tryz.func107 rfl Tryz.call107 Tryz.ntmps107 ?_
 rintro args ⟨n,rfl⟩ hwf
 refine ⟨by simp,?_⟩
 clear hwf
 rw [Tryz.results107]
 repeat' first
  | (refine And.intro ?_ ?_)
  | (intro h;simp only [reduceCtorEq] at h;done)
  | (intro h;rw [h])
  | (intro h)
 all_goals first
  | (show ac _=true;kernel_rfl)|(show aj _ _=true;kernel_rfl)|exact True.intro|exact Or.inr rfl|exact Or.inl rfl
  | exact rfl
  | skip
theorem xS:FOk Tryz.prog T 158 (wu cV vTxt):=by
 refine fok (env:=envL []) (N:=5) tabT ae mixed Tryz.func158 rfl Tryz.call158 Tryz.ntmps158 ?_
 rintro args ⟨t,rfl⟩ hwf
 refine ⟨by simp,?_⟩
 clear hwf
 rw [Tryz.results158]
 repeat' first
  | (refine And.intro ?_ ?_)
  | (intro h;simp only [reduceCtorEq] at h;done)
  | (intro h;rw [h])
  | (intro h)
 all_goals first
  | (show ac _=true;kernel_rfl)|(show aj _ _=true;kernel_rfl)|exact True.intro|exact Or.inr rfl|exact Or.inl rfl
  | exact rfl
  | skip
theorem xk110:FOk Tryz.prog T 110 (yM cV vStr):=by
 refine fok (env:=envL []) (N:=8) tabT ae mixed Tryz.func110 rfl Tryz.call110 Tryz.ntmps110 ?_
 rintro args ⟨n,m,rfl⟩ hwf
 refine ⟨by simp,?_⟩
 clear hwf
 rw [Tryz.results110]
 repeat' first
  | (refine And.intro ?_ ?_)
  | (intro h;simp only [reduceCtorEq] at h;done)
  | (intro h;rw [h])
  | (intro h)
 all_goals first
  | (show ac _=true;kernel_rfl)|(show aj _ _=true;kernel_rfl)|exact True.intro|exact Or.inr rfl|exact Or.inl rfl
  | exact rfl
  | skip
theorem vK:FOk Tryz.prog T 106 (oH):=by
 refine fokB (env:=envL [(153,qO)]) (N:=27) tabT (aa xk153 ae) mixed Tryz.func106 rfl Tryz.call106 Tryz.ntmps106 ?_
 rintro cs args ⟨s,w,k,b,hp,hw,he⟩ hwf
 simp only [jbj,SV.tup.injEq,jbn,true_and,and_true] at he
 obtain ⟨rfl,rfl⟩:=he
 obtain ⟨hz,h0,h1⟩:=id hp
 obtain ⟨k,rfl⟩:=jbU h0
 have hk:k≤s.size:=by omega
 have hy:=posK hp (w.size:Int) (by omega) (by omega)
 refine ⟨by simp,?_⟩
 clear hwf
 rw [Tryz.results106]
 repeat' first
  | (refine And.intro ?_ ?_)
  | (intro h;simp only [reduceCtorEq] at h;done)
  | (intro h;rw [h])
  | (intro h)
 all_goals first
  | (show ac _=true;kernel_rfl)|(show aj _ _=true;kernel_rfl)|exact True.intro|exact Or.inr rfl|exact Or.inl rfl
  | with_reducible exact ja7 _
  | (show (k:Int)≤(s.size:Int);omega)
  | exact jbE _
  | exact ⟨_,_,rfl⟩
  | (have hz:(!stB s (k:Int) w)=true:=by rw [← rz hk];assumption
     first
      | exact resB (cG hz).symm
      | exact updR (tk_no hz) rfl)
  | (have hz:(!stB s (k:Int) w)=false:=by rw [← rz hk];assumption
     first
      | exact resB (bw hz).symm
      | exact updR (hy.trans (yH hz)) rfl)
  | skip
theorem vJ:FOk Tryz.prog T 109 (spRd cV (fun _ _ _=>True) bg):=by
 refine fokB (env:=envL [(155,(yL (-999999999999) 999999999999)),(156,(tG cV vNum))]) (N:=89) tabT (aa ok155 (aa xk156 ae)) mixed Tryz.func109 rfl Tryz.call109 Tryz.ntmps109 ?_
 rintro cs args ⟨s,k,b,hp,_,he⟩ hwf
 simp only [jbj,SV.tup.injEq,jbn,true_and,and_true] at he
 obtain ⟨rfl,rfl⟩:=he
 obtain ⟨hz,h0,h1⟩:=id hp
 obtain ⟨k,rfl⟩:=jbU h0
 have hk:k≤s.size:=by omega
 refine ⟨by simp,?_⟩
 clear hwf
 rw [Tryz.results109]
 repeat' first
  | (refine And.intro ?_ ?_)
  | (intro h;simp only [reduceCtorEq] at h;done)
  | (intro h;rw [h])
  | (intro h)
 all_goals first
  | (show ac _=true;kernel_rfl)|(show aj _ _=true;kernel_rfl)|exact True.intro|exact Or.inr rfl|exact Or.inl rfl
  | skip
 refine ar (Q:=_) [0,2,3] [89,2] (fun m st=>∃ j:Nat,st=([.ptr 89 0 0,.ptr 2 1 0,iArg (k:Int)],[(0,[.val false [.s s],.val false [.i .i64 (j:Int)],.val false [.b b]]),(1,[.val false [.i .i64 0],.val false [.i .i64 0],.val false [.i .i64 0],.val false [.s ByteArray.empty],.val false [.sl true 53 []],.val false [.sl true 9 []],.val false [.sl true 131 []]])])∧k≤j∧j≤s.size∧runB mdB s j=dE s (k:Int)∧m=s.size - j) ?_ ?_
 · exact ⟨rfl,s.size - k,k,rfl,ja9 _,hk,rfl,rfl⟩
 rintro m st ⟨j,rfl,j0,j1,jr,rfl⟩
 repeat' first
  | (refine And.intro ?_ ?_)
  | (intro h;simp only [reduceCtorEq] at h;done)
  | (intro h;rw [h])
  | (intro h)
 all_goals first
  | (show ac _=true;kernel_rfl)|(show aj _ _=true;kernel_rfl)|exact True.intro|exact Or.inr rfl|exact Or.inl rfl
  | with_reducible exact ja7 _
  | with_reducible exact jaT (by with_reducible assumption)
  | (show aL _ _;exact rfl)
  | (have hj:j < s.size:=ltN (by with_reducible assumption)
     have hm:mdB (bAt s j)=true:=by
      first
       | exact md_1 (by assumption)
       | exact md_2 (by assumption) (by assumption)
     refine ⟨s.size - (j+1),by omega,j+1,?_,by omega,by omega,(tI hj hm).symm.trans jr,rfl⟩
     exact congrArg (fun z:Int=>(([.ptr 89 0 0,.ptr 2 1 0,iArg (k:Int)],[(0,[.val false [.s s],.val false [.i .i64 z],.val false [.b b]]),(1,[.val false [.i .i64 0],.val false [.i .i64 0],.val false [.i .i64 0],.val false [.s ByteArray.empty],.val false [.sl true 53 []],.val false [.sl true 9 []],.val false [.sl true 131 []]])]):Snap)) (wrapN hj (by simp only [maxLen];omega)))
  | (have je:j=dE s (k:Int):=by
      rw [← jr]
      first
       | exact (tJ (nltN (by with_reducible assumption))).symm
       | exact (l7 (ltN (by with_reducible assumption)) (md_3 (by assumption) (by assumption))).symm
       | exact (l7 (ltN (by with_reducible assumption)) (md_4 (by assumption) (by assumption))).symm
     subst je
     first
      | (show (k:Int)≤(dE s (k:Int):Int);omega)
      | (show (dE s (k:Int):Int)≤(s.size:Int);omega)
      | (refine ⟨_,?_,rfl⟩;show (s.extract k (dE s (k:Int))).size≤_;rw [jbi];omega)
      | exact ⟨_,rfl⟩
      | exact rfl
      | (refine updR rfl ?_;show _=(b && (prsI s (k:Int)).2);rw [show b=true by assumption];rfl)
      | (refine updR rfl ?_;show _=(b && (prsI s (k:Int)).2);rw [show b=false by assumption];rfl))
  | skip
end Go.Proofs.YtkpnfbdoaljkpaaGreatDoor.Ab
