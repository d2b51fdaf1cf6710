/- A part. -/
import Derived.Test.YtdjfhmghebommaaGreatDoorDYw
namespace Go.Proofs.YtdjfhmghebommaaGreatDoor.Ab
open Go.RowKit
set_option linter.all false
set_option maxRecDepth 100000
set_option maxHeartbeats 2000000
theorem xk97:FOk Tryz.prog T 97 sf:=by
 refine fok (env:=envL [(133,(rT idxT))]) (N:=7) tabT (ac yX af) mixed Tryz.func97 rfl Tryz.call97 Tryz.ntmps97 ?_
 rintro args ⟨t,rfl⟩ hwf
 refine ⟨by simp,?_⟩
 clear hwf
 rw [Tryz.results97]
 repeat' first
  | refine And.intro ?_ ?_
  | (intro h;simp only [reduceCtorEq] at h;done)
  | (intro h;rw [h])
  | intro h
 all_goals first
  | (show aa _=true;kernel_rfl)|(show am _ _=true;kernel_rfl)|exact True.intro|exact Or.inr rfl|exact Or.inl rfl
  | exact rfl
  | exact ⟨_,_,rfl⟩
  | exact resI (jbo t)
  | skip
theorem uD {s:ByteArray} (hs:s.size≤1048576):WfRow T cV (bN s).1:=by
 have hp:∀ k:Int,0≤k→k≤s.size→PosIn s k:=fun k h0 h=>⟨hs,h0,h⟩
 unfold bN
 split
 · refine zi ?_
   rw [tT];exact tU _
 split
 · exact zg (mL (pi _ _ _)) (mL (pi _ _ _))
 split
 · rename_i hb
   have hb:=bi hb
   have e:(TBO.size:Int)=6:=rfl
   have p6:PosIn s 6:=hp 6 (by decide) (by omega)
   have pb:=(pr (b:=true) 0 p6).andK (valI s 0 6 true).2.2 COMMA
   have w2:=jG hs 2 (by decide) _ (andB s (valI s 0 6 true).2.1 (valI s 0 6 true).2.2 COMMA) pb.2.1 pb.2.2
   refine zf (ry p6) (w2.rows (j:=4) rfl).len fun r hr=>mK w2 hr
 · exact jG hs 3 (by decide) 0 true (jcz _) (jb2 _)
end Go.Proofs.YtdjfhmghebommaaGreatDoor.Ab
