/- A part. -/
import Derived.Test.YtdjfhmghebommaaGreatDoorDWr
namespace Go.Proofs.YtdjfhmghebommaaGreatDoor.Ab
open Go.RowKit
set_option linter.all false
set_option maxRecDepth 100000
set_option maxHeartbeats 8000000
def spRO (rc:ByteArray→Int→List D × Int):FSpec where
 pre args:=∃ s:ByteArray,s.size≤1048576∧args=[sArg s]
 res args:=match args with
  | [.val _ [.s s]]=>.tup [(false,[.sl false 29 (rcA rc s).1]),(false,[.i .i64 (rcA rc s).2])]
  | _=>.none
theorem jaj {a b:CV} {p q:List (List D) × Int} (h:q=p) (hc:a=.sl false 29 p.1) (he:b=.i .i64 p.2):[(false,[a]),(false,[b])]=[(false,[CV.sl false 29 q.1]),(false,[CV.i .i64 q.2])]:=by
 subst h hc he;rfl
set_option maxHeartbeats 8000000 in
theorem xo13 (rc:ByteArray→Int→List D × Int) (hw:RcOk rc) (hrc:FOk Tryz.prog T 11 (spPR cO rc)):FOk Tryz.prog T 13 (spRO rc):=by
 refine fok (env:=envL [(11,(spPR cO rc))]) (N:=29) tabT (ac hrc af) mixed Tryz.func13 rfl Tryz.call13 Tryz.ntmps13 ?_
 rintro args ⟨s,hs,rfl⟩ hwf'
 clear hwf'
 refine ⟨by simp,?_⟩
 rw [Tryz.results13]
 repeat' first
  | refine And.intro ?_ ?_
  | (intro h;simp only [reduceCtorEq] at h;done)
  | (intro h;rw [h])
  | intro h
 all_goals first
  | (show aa _=true;kernel_rfl)|(show am _ _=true;kernel_rfl)|exact True.intro|exact Or.inr rfl|exact Or.inl rfl
  | exact rfl
  | skip
 refine ap (Q:=_) [0,4,5] [] (fun m st=>∃ (o:List (List D)) (k:Int) (g:Nat),st=([sArg s,.val false [.sl true 29 o],iArg k],[])∧0≤k∧k≤s.size∧o.length≤60∧60≤g+o.length∧rcF rc s g k o=rcA rc s∧m=60 - o.length) ?_ ?_
 · exact ⟨rfl,60,[],0,60,rfl,jcz _,jb2 _,by decide,by decide,rfl,rfl⟩
 rintro m st ⟨o,k,g,rfl,h0,h1,hl,hg,hE,hm⟩
 obtain ⟨wo,so,hr0,hr1⟩:=hw s k hs
 have hr1:=hr1 h0 h1
 have w7:csD (rowC cO (rc s k).1)=(rc s k).1:=au wo
 repeat' first
  | refine And.intro ?_ ?_
  | (intro h;simp only [reduceCtorEq] at h;done)
  | (intro h;rw [h])
  | intro h
 all_goals first
  | (show aa _=true;kernel_rfl)|(show am _ _=true;kernel_rfl)|exact True.intro|exact Or.inr rfl|exact Or.inl rfl
  | exact rfl
  | exact ⟨_,_,hs,rfl⟩
  | (have hlt:o.length < 60:=by have:=jbO (show decide ((o.length:Int) < 60)=true by assumption);omega
     first
      | (show o.length+1≤maxLen;simp only [maxLen];omega)
      | (show (o.length+1) * 200≤_;omega)
      | (show aT [] _;exact rfl)
      | (have h5:((rc s k).2 == 0)=false:=by assumption
         obtain ⟨g',rfl,hE'⟩:=wm hlt h5 hg
         refine ⟨60 - (o.length+1),by omega,o++[(rc s k).1],k+(rc s k).2,g',?_,by omega,hr1,by rw [jbQ];exact hlt,by rw [jbQ];show 60≤g' + (o.length+1);omega,by rw [← hE'];exact hE,by rw [jbQ];rfl⟩
         exact wc (f:=fun r z=>(([sArg s,.val false [.sl true 29 r],iArg z],[]):Snap)) (congrArg (fun r=>o++[r]) w7) (za h0 hr0 hr1 hs))
      | (have h5:((rc s k).2 == 0)=true:=by assumption
         have h6:=eq_of_beq h5
         have hZ:rcA rc s=(o,k):=hE.symm.trans (jp (fun c=>c.2 h6))
         exact jaj hZ rfl rfl))
  | (have h6:decide ((o.length:Int) < 60)=false:=by assumption
     have h7:=jbZ h6
     have hZ:rcA rc s=(o,k):=hE.symm.trans (jp (fun c=>h7 (by have:=c.1;omega)))
     exact jaj hZ rfl rfl)
  | skip
def xI (rc:ByteArray→Int→List D × Int):FSpec where
 pre args:=∃ s:ByteArray,s.size≤1048576∧args=[sArg s]
 res args:=match args with
  | [.val _ [.s s]]=>.tup [(false,[.sl true 29 (rcA rc s).1]),(false,[.i .i64 (rcA rc s).2])]
  | _=>.none
theorem wi {a b:CV} {p q:List (List D) × Int} (h:q=p) (hc:a=.sl true 29 p.1) (he:b=.i .i64 p.2):[(false,[a]),(false,[b])]=[(false,[CV.sl true 29 q.1]),(false,[CV.i .i64 q.2])]:=by
 subst h hc he;rfl
theorem zo14 (rc:ByteArray→Int→List D × Int) (hw:RcOk rc) (hrc:FOk Tryz.prog Td 12 (lQ cO rc)):FOk Tryz.prog Td 14 (xI rc):=by
 refine fok (env:=envL [(12,(lQ cO rc))]) (N:=29) il (ay hrc bU) mixed Tryz.func14 rfl Tryz.call14 Tryz.ntmps14 ?_
 rintro args ⟨s,hs,rfl⟩ hwf'
 clear hwf'
 refine ⟨by simp,?_⟩
 rw [Tryz.results14]
 repeat' first
  | refine And.intro ?_ ?_
  | (intro h;simp only [reduceCtorEq] at h;done)
  | (intro h;rw [h])
  | intro h
 all_goals first
  | (show aa _=true;kernel_rfl)|(show am _ _=true;kernel_rfl)|exact True.intro|exact Or.inr rfl|exact Or.inl rfl
  | exact rfl
  | skip
 refine ap (Q:=_) [0,4,5] [] (fun m st=>∃ (o:List (List D)) (k:Int) (g:Nat),st=([sArg s,.val false [.sl true 29 o],iArg k],[])∧0≤k∧k≤s.size∧o.length≤60∧60≤g+o.length∧rcF rc s g k o=rcA rc s∧m=60 - o.length) ?_ ?_
 · exact ⟨rfl,60,[],0,60,rfl,jcz _,jb2 _,by decide,by decide,rfl,rfl⟩
 rintro m st ⟨o,k,g,rfl,h0,h1,hl,hg,hE,hm⟩
 obtain ⟨wo,so,hr0,hr1⟩:=hw s k hs
 have hr1:=hr1 h0 h1
 have w7:csD (rowC cO (rc s k).1)=(rc s k).1:=au wo
 repeat' first
  | refine And.intro ?_ ?_
  | (intro h;simp only [reduceCtorEq] at h;done)
  | (intro h;rw [h])
  | intro h
 all_goals first
  | (show aa _=true;kernel_rfl)|(show am _ _=true;kernel_rfl)|exact True.intro|exact Or.inr rfl|exact Or.inl rfl
  | exact rfl
  | exact ⟨_,_,hs,rfl⟩
  | (have hlt:o.length < 60:=by have:=jbO (show decide ((o.length:Int) < 60)=true by assumption);omega
     first
      | (show o.length+1≤maxLen;simp only [maxLen];omega)
      | (show (o.length+1) * 200≤_;omega)
      | (show aT [] _;exact rfl)
      | (have h5:((rc s k).2 == 0)=false:=by assumption
         obtain ⟨g',rfl,hE'⟩:=wm hlt h5 hg
         refine ⟨60 - (o.length+1),by omega,o++[(rc s k).1],k+(rc s k).2,g',?_,by omega,hr1,by rw [jbQ];exact hlt,by rw [jbQ];show 60≤g' + (o.length+1);omega,by rw [← hE'];exact hE,by rw [jbQ];rfl⟩
         exact wc (f:=fun r z=>(([sArg s,.val false [.sl true 29 r],iArg z],[]):Snap)) (congrArg (fun r=>o++[r]) w7) (za h0 hr0 hr1 hs))
      | (have h5:((rc s k).2 == 0)=true:=by assumption
         have h6:=eq_of_beq h5
         have hZ:rcA rc s=(o,k):=hE.symm.trans (jp (fun c=>c.2 h6))
         exact wi hZ rfl rfl))
  | (have h6:decide ((o.length:Int) < 60)=false:=by assumption
     have h7:=jbZ h6
     have hZ:rcA rc s=(o,k):=hE.symm.trans (jp (fun c=>h7 (by have:=c.1;omega)))
     exact wi hZ rfl rfl)
  | (rw [jcF.1 h];exact True.intro)
  | exact (show (7:Nat)≤1024 by decide)
  | exact (show (17:Nat)≤1024 by decide)
  | skip
end Go.Proofs.YtdjfhmghebommaaGreatDoor.Ab
