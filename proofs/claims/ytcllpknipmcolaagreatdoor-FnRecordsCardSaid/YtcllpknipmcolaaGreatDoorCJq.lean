/- What the laws of records and stores need, in plain -/
import Derived.Test.YtcllpknipmcolaaGreatDoorCJp
namespace Go.Proofs.YtcllpknipmcolaaGreatDoor.Ab
open Go.RowKit
set_option linter.all false
set_option maxRecDepth 100000
set_option maxHeartbeats 1000000
abbrev AB:ByteArray:=⟨#[97,98]⟩
abbrev CD:ByteArray:=⟨#[99,100]⟩
structure LawF (po:ByteArray→List D × Bool) (rc:ByteArray→Int→List D × Int) (g r:List D→ByteArray):Prop where
 nil:∀ a,OpD a→((r a).toList == (⟨#[]⟩:ByteArray).toList)=((g a).toList == (⟨#[]⟩:ByteArray).toList)
 back:∀ a,OpD a→(r a).toList ≠ []→rc (AB++r a++CD) 2=(a,((r a).size:Int))
 none:∀ a,OpD a→(r a).toList=[]→(rc (AB++r a++CD) 2).2=0
 rsz:∀ a,OpD a→(r a).size≤90012
 po1:∀ t,t.size≤1048576→WfRow T cO (po t).1∧SmO (po t).1∧((po t).2=true→g (po t).1=t)
 rc1:∀ s k,s.size≤1048576→WfRow T cO (rc s k).1∧SmO (rc s k).1
 rct:∀ s k,(rc s k).2 ≠ 0→0≤k∧0≤(rc s k).2∧k+(rc s k).2≤s.size∧r (rc s k).1=s.extract k.toNat (k+(rc s k).2).toNat
theorem lT {t:ByteArray}:((recT t).toList == (⟨#[]⟩:ByteArray).toList)=(t.toList == (⟨#[]⟩:ByteArray).toList):=by
 by_cases h:t.data.toList=[]
 · rw [lR h]
   have:t.toList=(⟨#[]⟩:ByteArray).toList:=by rw [ByteArray.toList_eq,ByteArray.toList_eq,h]
   rw [this]
 · have h1:(t.toList == (⟨#[]⟩:ByteArray).toList)=false:=by
    rw [beq_eq_false_iff_ne,ByteArray.toList_eq,ByteArray.toList_eq]
    exact h
   have h2:((recT t).toList == (⟨#[]⟩:ByteArray).toList)=false:=by
    rw [beq_eq_false_iff_ne,ByteArray.toList_eq,ByteArray.toList_eq,jc h]
    simp
   rw [h1,h2]
theorem na {t:ByteArray} (h:(recT t).toList ≠ []):t.toList ≠ []:=by
 intro e
 have:=lT (t:=t)
 rw [e,nil_toList] at this
 simp at this
 exact h this
theorem tU {t:ByteArray} (h:(recT t).toList=[]):t.data.toList=[]:=by
 have:=lT (t:=t)
 rw [h,nil_toList] at this
 rw [← ByteArray.toList_eq]
 simpa using this.symm
theorem lawF:LawF poX rcX aL (fun a=>recT (aL a)) where
 nil a _:=lT
 back a ha hne:=jaR (x:=AB) (y:=CD) (yA ha.wf (na hne) (jcr ha.text (by decide))) (na hne)
 none a ha he:=by
  have:recS poX (AB++recT (aL a)++CD) ((2:Nat):Int)=(bS,0):=by
   rw [lR (tU he)]
   refine vh fun j h1 h2=>?_
   have h2:j < 4:=h2
   have:j=2∨j=3:=by omega
   rcases this with rfl|rfl
   · rw [dX];simp
   · rw [dX];simp
  exact congrArg Prod.snd this
 rsz a ha:=ha.rec
 po1 t ht:=⟨(pL t ht).1,(pL t ht).2,fun h=>by
  have h' : (poOf (opS (ac (ah t)) (rdsS pvX (ac (ah t)) (numS (ac (ah t)) 18) ((ac (ah t)).length+1) 0 [])) (!(t.toList == [])) t).2=true:=h
  show aL (poOf (opS (ac (ah t)) (rdsS pvX (ac (ah t)) (numS (ac (ah t)) 18) ((ac (ah t)).length+1) 0 [])) (!(t.toList == [])) t).1=t
  generalize (opS (ac (ah t)) (rdsS pvX (ac (ah t)) (numS (ac (ah t)) 18) ((ac (ah t)).length+1) 0 []))=o at *
  unfold poOf at h' ⊢
  split at h'
  · rename_i hc
    rw [if_pos hc]
    have:=hc.2
    rwa [aZ] at this
  · cases h'⟩
 rc1 s k hs:=⟨(wP s k hs).1,(wP s k hs).2.1⟩
 rct s k h:=by
  have:=vf (po:=poX) (s:=s) (k:=k) h
  exact ⟨this.1, by have h0:0≤(recS poX s k).2:=by
                     unfold recS recN
                     split
                     · split
                       · exact jc5 _
                       · split
                         · exact jcy _
                         · exact jc5 _
                     · exact jc5 _
                    exact h0,this.2.1,this.2.2⟩
theorem ok30:FOk Tryz.prog T 30 (eqS 3):=by
 refine fok (env:=envL []) (N:=26) tabT ae mixed Tryz.func30 rfl Tryz.call30 Tryz.ntmps30 ?_
 rintro args ⟨a,b,rfl⟩ hwf
 have wa:WfD T (.l 3) (.l a):=arg0 hwf (jcC _)
 have wb:WfD T (.l 3) (.l b):=arg1 hwf (jcC _)
 clear hwf
 have la:=wa.len
 refine ⟨by simp,?_⟩
 rw [Tryz.results30]
 repeat' first
  | (refine And.intro ?_ ?_)
  | (intro h)
 all_goals first
  | exact True.intro
  | exact Or.inr rfl
  | exact dE (pQ ‹_›)
  | skip
 have hl:=lf ‹_›
 refine am (Q:=_) [0,1,5] [] (fun n s=>∃ i:Int,s=([argS 3 a,argS 3 b,.val false [.i .i64 i]],[])∧0≤i∧i≤a.length∧n=a.length - i.toNat∧a.take i.toNat=b.take i.toNat) ?_ ?_
 · exact ⟨rfl,a.length - 0,_,rfl,by omega,by omega,rfl,rfl⟩
 rintro n s ⟨i,rfl,h1,h2,h3,h4⟩
 repeat' first
  | (refine And.intro ?_ ?_)
  | (intro h)
 all_goals first
  | (show av _=true;kernel_rfl)
  | (show aX _ _=true;kernel_rfl)
  | exact True.intro
  | exact rfl
  | exact Or.inr rfl
  | omega
  | exact jck ‹_›
  | exact hl ▸ jck ‹decide (i < (a.length:Int))=true›
  | exact jN (b9 hl h1 h2 ‹_› h4)
  | (have hi:i < (a.length:Int):=jck ‹_›
     have wra:WfRow T [.i .i64] (a.getD i.toNat []):=wa.row rfl (by omega)
     have wrb:WfRow T [.i .i64] (b.getD i.toNat []):=wb.row rfl (by omega)
     first
      | (refine dE ?_;rintro rfl;simp_all [eqDs,eqD,aZ];done)
      | (refine ⟨a.length - (i+1).toNat,by omega,i+1,?_,by omega,by omega,rfl,cP h1 hi hl h4 (fC wra wrb ?_)⟩
         · exact congrArg (fun z=>([argS 3 a,argS 3 b,.val false [.i .i64 z]],[])) (aE h1 hi la)
         · simp_all [eqDs,eqD,aZ,csD,CV.d,rowC,ofD,argG,sub,List.zipIdx,List.range,List.range.loop]))
theorem ok140:FOk Tryz.prog T 140 (eqS 9):=by
 refine fok (env:=envL []) (N:=26) tabT ae mixed Tryz.func140 rfl Tryz.call140 Tryz.ntmps140 ?_
 rintro args ⟨a,b,rfl⟩ hwf
 have wa:WfD T (.l 9) (.l a):=arg0 hwf (jcC _)
 have wb:WfD T (.l 9) (.l b):=arg1 hwf (jcC _)
 clear hwf
 have la:=wa.len
 refine ⟨by simp,?_⟩
 rw [Tryz.results140]
 repeat' first
  | (refine And.intro ?_ ?_)
  | (intro h)
 all_goals first
  | exact True.intro
  | exact Or.inr rfl
  | exact dE (pQ ‹_›)
  | skip
 have hl:=lf ‹_›
 refine am (Q:=_) [0,1,5] [] (fun n s=>∃ i:Int,s=([argS 9 a,argS 9 b,.val false [.i .i64 i]],[])∧0≤i∧i≤a.length∧n=a.length - i.toNat∧a.take i.toNat=b.take i.toNat) ?_ ?_
 · exact ⟨rfl,a.length - 0,_,rfl,by omega,by omega,rfl,rfl⟩
 rintro n s ⟨i,rfl,h1,h2,h3,h4⟩
 repeat' first
  | (refine And.intro ?_ ?_)
  | (intro h)
 all_goals first
  | (show av _=true;kernel_rfl)
  | (show aX _ _=true;kernel_rfl)
  | exact True.intro
  | exact rfl
  | exact Or.inr rfl
  | omega
  | exact jck ‹_›
  | exact hl ▸ jck ‹decide (i < (a.length:Int))=true›
  | exact jN (b9 hl h1 h2 ‹_› h4)
  | (have hi:i < (a.length:Int):=jck ‹_›
     have wra:WfRow T [.s] (a.getD i.toNat []):=wa.row rfl (by omega)
     have wrb:WfRow T [.s] (b.getD i.toNat []):=wb.row rfl (by omega)
     first
      | (refine dE ?_;rintro rfl;simp_all [eqDs,eqD,aZ];done)
      | (refine ⟨a.length - (i+1).toNat,by omega,i+1,?_,by omega,by omega,rfl,cP h1 hi hl h4 (fC wra wrb ?_)⟩
         · exact congrArg (fun z=>([argS 9 a,argS 9 b,.val false [.i .i64 z]],[])) (aE h1 hi la)
         · simp_all [eqDs,eqD,aZ,csD,CV.d,rowC,ofD,argG,sub,List.zipIdx,List.range,List.range.loop]))
theorem ok141:FOk Tryz.prog T 141 (eqS 126):=by
 refine fok (env:=envL []) (N:=26) tabT ae mixed Tryz.func141 rfl Tryz.call141 Tryz.ntmps141 ?_
 rintro args ⟨a,b,rfl⟩ hwf
 have wa:WfD T (.l 126) (.l a):=arg0 hwf (jcC _)
 have wb:WfD T (.l 126) (.l b):=arg1 hwf (jcC _)
 clear hwf
 have la:=wa.len
 refine ⟨by simp,?_⟩
 rw [Tryz.results141]
 repeat' first
  | (refine And.intro ?_ ?_)
  | (intro h)
 all_goals first
  | exact True.intro
  | exact Or.inr rfl
  | exact dE (pQ ‹_›)
  | skip
 have hl:=lf ‹_›
 refine am (Q:=_) [0,1,5] [] (fun n s=>∃ i:Int,s=([argS 126 a,argS 126 b,.val false [.i .i64 i]],[])∧0≤i∧i≤a.length∧n=a.length - i.toNat∧a.take i.toNat=b.take i.toNat) ?_ ?_
 · exact ⟨rfl,a.length - 0,_,rfl,by omega,by omega,rfl,rfl⟩
 rintro n s ⟨i,rfl,h1,h2,h3,h4⟩
 repeat' first
  | (refine And.intro ?_ ?_)
  | (intro h)
 all_goals first
  | (show av _=true;kernel_rfl)
  | (show aX _ _=true;kernel_rfl)
  | exact True.intro
  | exact rfl
  | exact Or.inr rfl
  | omega
  | exact jck ‹_›
  | exact hl ▸ jck ‹decide (i < (a.length:Int))=true›
  | exact jN (b9 hl h1 h2 ‹_› h4)
  | (have hi:i < (a.length:Int):=jck ‹_›
     have wra:WfRow T [.i .i64,.i .i64] (a.getD i.toNat []):=wa.row rfl (by omega)
     have wrb:WfRow T [.i .i64,.i .i64] (b.getD i.toNat []):=wb.row rfl (by omega)
     first
      | (refine dE ?_;rintro rfl;simp_all [eqDs,eqD,aZ];done)
      | (refine ⟨a.length - (i+1).toNat,by omega,i+1,?_,by omega,by omega,rfl,cP h1 hi hl h4 (fC wra wrb ?_)⟩
         · exact congrArg (fun z=>([argS 126 a,argS 126 b,.val false [.i .i64 z]],[])) (aE h1 hi la)
         · simp_all [eqDs,eqD,aZ,csD,CV.d,rowC,ofD,argG,sub,List.zipIdx,List.range,List.range.loop]))
theorem jao (n:Nat) (hn:FOk Tryz.prog T 93 (eqFn cV n)):FOk Tryz.prog T 93 (eqFn cV (n+1)):=by
 refine fok (env:=envL [(140,(eqS 9)),(93,(eqFn cV n)),(30,(eqS 3)),(141,(eqS 126))]) (N:=121) tabT (aa ok140 (aa hn (aa ok30 (aa ok141 ae)))) mixed Tryz.func93 rfl Tryz.call93 Tryz.ntmps93 ?_
 rintro args ⟨a,b,wa,wb,hs,rfl⟩ hwf
 refine ⟨by simp,?_⟩
 clear hwf
 have wA0:WfD T (.l 57) (.l (a.getD 4 default).rows):=wa.rows (j:=4) rfl
 have wB0:WfD T (.l 57) (.l (b.getD 4 default).rows):=wb.rows (j:=4) rfl
 have lA0:=wA0.len
 have wA1:WfD T (.l 101) (.l (a.getD 6 default).rows):=wa.rows (j:=6) rfl
 have wB1:WfD T (.l 101) (.l (b.getD 6 default).rows):=wb.rows (j:=6) rfl
 have lA1:=wA1.len
 rw [Tryz.results93]
 repeat' first
  | (refine And.intro ?_ ?_)
  | (intro h;cases h)
  | (intro h;rw [h])
  | (intro h)
 all_goals first
  | exact True.intro
  | exact Or.inr rfl
  | exact ⟨_,_,rfl⟩
  | (exact dE (fun he=>by have e:=fC wa wb he;subst e;simp_all [eqDs,eqD,aZ]))
  | skip
 have hl0:(a.getD 4 default).rows.length=(b.getD 4 default).rows.length:=lf ‹(((a.getD 4 default).rows.length:Int) != ((b.getD 4 default).rows.length:Int))=false›
 refine am (Q:=_) [2,3,4,7] [3,4] (fun n s=>∃ i:Int,s=([.val false [.b true],.ptr 3 1 0,.ptr 4 1 0,.val false [.i .i64 i]],[(1,(rowC cV a).map fun c=>.val false [c]),(1,(rowC cV b).map fun c=>.val false [c])])∧0≤i∧i≤(a.getD 4 default).rows.length∧n=(a.getD 4 default).rows.length - i.toNat∧(a.getD 4 default).rows.take i.toNat=(b.getD 4 default).rows.take i.toNat) ?_ ?_
 · exact ⟨rfl,(a.getD 4 default).rows.length - 0,_,rfl,by omega,by omega,rfl,rfl⟩
 rintro n0 s ⟨i0,rfl,h10,h20,h30,h40⟩
 repeat' first
  | (refine And.intro ?_ ?_)
  | (intro h;cases h)
  | (intro h;rw [h])
  | (intro h)
 all_goals first
  | (show av _=true;kernel_rfl)
  | (show aX _ _=true;kernel_rfl)
  | exact True.intro
  | exact rfl
  | exact Or.inr rfl
  | omega
  | exact jck ‹_›
  | exact hl0 ▸ jck ‹decide (i0 < ((a.getD 4 default).rows.length:Int))=true›
  | (have hi:i0 < ((a.getD 4 default).rows.length:Int):=jck ‹decide (i0 < ((a.getD 4 default).rows.length:Int))=true›
     have wra0:WfRow T cV ((a.getD 4 default).rows.getD i0.toNat []):=wA0.row rfl (by omega)
     have wrb0:WfRow T cV ((b.getD 4 default).rows.getD i0.toNat []):=wB0.row rfl (by omega)
     first
      | exact ⟨_,_,wra0,wrb0,jdi (Nat.lt_trans (i8 (by omega)) (eJ (by rw [wa.1];decide))) (jec hs),rfl⟩
      | (exact dE (fun he=>by have e:=fC wa wb he;subst e;simp_all [eqDs,eqD,aZ]))
      | (refine ⟨(a.getD 4 default).rows.length - (i0+1).toNat,by omega,i0+1,?_,by omega,by omega,rfl,cP h10 hi hl0 h40 (fC wra0 wrb0 ?_)⟩
         · exact congrArg (fun z:Int=>(([.val false [.b true],.ptr 3 1 0,.ptr 4 1 0,.val false [.i .i64 z]],[(1,(rowC cV a).map fun c=>.val false [c]),(1,(rowC cV b).map fun c=>.val false [c])]):Snap)) (aE h10 hi lA0)
         · simp_all [eqDs,eqD,aZ,csD,CV.d,rowC,ofD,argG,sub,List.zipIdx,List.range,List.range.loop]))
  | (have hA0:(a.getD 4 default).rows=(b.getD 4 default).rows:=b9 hl0 h10 h20 ‹_› h40
     first
      | skip)
  | skip
 have hA0:(a.getD 4 default).rows=(b.getD 4 default).rows:=b9 hl0 h10 h20 ‹decide (i0 < ((a.getD 4 default).rows.length:Int))=false› h40
 have hl1:(a.getD 6 default).rows.length=(b.getD 6 default).rows.length:=lf ‹(((a.getD 6 default).rows.length:Int) != ((b.getD 6 default).rows.length:Int))=false›
 refine am (Q:=_) [2,3,4,8] [3,4] (fun n s=>∃ i:Int,s=([.val false [.b true],.ptr 3 1 0,.ptr 4 1 0,.val false [.i .i64 i]],[(1,(rowC cV a).map fun c=>.val false [c]),(1,(rowC cV b).map fun c=>.val false [c])])∧0≤i∧i≤(a.getD 6 default).rows.length∧n=(a.getD 6 default).rows.length - i.toNat∧(a.getD 6 default).rows.take i.toNat=(b.getD 6 default).rows.take i.toNat) ?_ ?_
 · exact ⟨rfl,(a.getD 6 default).rows.length - 0,_,rfl,by omega,by omega,rfl,rfl⟩
 rintro n1 s ⟨i1,rfl,h11,h21,h31,h41⟩
 repeat' first
  | (refine And.intro ?_ ?_)
  | (intro h;cases h)
  | (intro h;rw [h])
  | (intro h)
 all_goals first
  | (show av _=true;kernel_rfl)
  | (show aX _ _=true;kernel_rfl)
  | exact True.intro
  | exact rfl
  | exact Or.inr rfl
  | omega
  | exact jck ‹_›
  | exact hl1 ▸ jck ‹decide (i1 < ((a.getD 6 default).rows.length:Int))=true›
  | exact ⟨_,_,rfl⟩
  | (have hi:i1 < ((a.getD 6 default).rows.length:Int):=jck ‹decide (i1 < ((a.getD 6 default).rows.length:Int))=true›
     have wra1:WfRow T [.l 3,.l 126] ((a.getD 6 default).rows.getD i1.toNat []):=wA1.row rfl (by omega)
     have wrb1:WfRow T [.l 3,.l 126] ((b.getD 6 default).rows.getD i1.toNat []):=wB1.row rfl (by omega)
     first
      | (exact dE (fun he=>by have e:=fC wa wb he;subst e;simp_all [eqDs,eqD,aZ]))
      | (refine ⟨(a.getD 6 default).rows.length - (i1+1).toNat,by omega,i1+1,?_,by omega,by omega,rfl,cP h11 hi hl1 h41 (fC wra1 wrb1 ?_)⟩
         · exact congrArg (fun z:Int=>(([.val false [.b true],.ptr 3 1 0,.ptr 4 1 0,.val false [.i .i64 z]],[(1,(rowC cV a).map fun c=>.val false [c]),(1,(rowC cV b).map fun c=>.val false [c])]):Snap)) (aE h11 hi lA1)
         · simp_all [eqDs,eqD,aZ,csD,CV.d,rowC,ofD,argG,sub,List.zipIdx,List.range,List.range.loop]))
  | (have hA1:(a.getD 6 default).rows=(b.getD 6 default).rows:=b9 hl1 h11 h21 ‹_› h41
     first
      | (refine jN ?_;simp_all [eqDs,eqD,aZ,csD,CV.d,rowC,ofD,argG,sub,List.zipIdx,List.range,List.range.loop];done))
theorem zt:FOk Tryz.prog T 93 (eqFn cV 0):=by
 refine fok (env:=envL []) (N:=121) tabT ae mixed Tryz.func93 rfl Tryz.call93 Tryz.ntmps93 ?_
 rintro args ⟨a,b,wa,wb,hs,rfl⟩ _
 exact absurd hs (jda _)
theorem all93 (n:Nat):FOk Tryz.prog T 93 (eqFn cV n):=by
 induction n with
 | zero=>exact zt
 | succ n ih=>exact jao n ih
theorem ok93:FOk Tryz.prog T 93 (eqF cV):=FOk.lift (s:=fun n=>eqFn cV n) all93 (fun args ⟨a,b,wa,wb,h⟩=>⟨SizeOf.sizeOf a+1,a,b,wa,wb,jdk _,h⟩) (fun n=>rfl)
theorem ok65:FOk Tryz.prog T 65 (eqG cV):=by
 refine fok (env:=envL [(93,(eqF cV))]) (N:=8) tabT (aa ok93 ae) mixed Tryz.func65 rfl Tryz.call65 Tryz.ntmps65 ?_
 rintro args ⟨a,b,wa,wb,rfl⟩ hwf
 refine ⟨by simp,?_⟩
 clear hwf
 rw [Tryz.results65]
 repeat' first
  | (refine And.intro ?_ ?_)
  | (intro h;cases h)
  | (intro h;rw [h])
  | (intro h)
 all_goals first
  | exact True.intro
  | exact rfl
  | exact Or.inr rfl
  | exact ⟨_,_,wa,wb,rfl⟩
theorem ok64:FOk Tryz.prog T 64 (eqP [.i .i64,.i .i64,.i .i64,.s,.i .i64,.i .i64,.i .i64,.s,.l 57,.l 9,.l 101] 4):=by
 refine fok (env:=envL []) (N:=31) tabT ae mixed Tryz.func64 rfl Tryz.call64 Tryz.ntmps64 ?_
 rintro args ⟨a,b,wa,wb,rfl⟩ hwf
 refine ⟨by simp,?_⟩
 clear hwf
 rw [Tryz.results64]
 repeat' first
  | (refine And.intro ?_ ?_)
  | (intro h;cases h)
  | (intro h;rw [h])
  | (intro h)
 all_goals first
  | exact True.intro
  | exact Or.inr rfl
  | (refine dE ?_;simp_all [eqDs,eqD,aZ,csD,CV.d,rowC,ofD,argG,sub,List.zipIdx,List.range,List.range.loop];done)
  | (refine su ?_;simp_all [eqDs,eqD,aZ,csD,CV.d,rowC,ofD,argG,sub,List.zipIdx,List.range,List.range.loop];done)
theorem ok31:FOk Tryz.prog T 31 (eqS 59):=by
 refine fok (env:=envL [(64,(eqP [.i .i64,.i .i64,.i .i64,.s,.i .i64,.i .i64,.i .i64,.s,.l 57,.l 9,.l 101] 4)),(65,(eqG cV))]) (N:=41) tabT (aa ok64 (aa ok65 ae)) mixed Tryz.func31 rfl Tryz.call31 Tryz.ntmps31 ?_
 rintro args ⟨a,b,rfl⟩ hwf
 refine ⟨by simp,?_⟩
 have wa:WfD T (.l 59) (.l a):=arg0 hwf (jcC _)
 have wb:WfD T (.l 59) (.l b):=arg1 hwf (jcC _)
 clear hwf
 have wA0:=wa
 have wB0:=wb
 have lA0:=wa.len
 rw [Tryz.results31]
 repeat' first
  | (refine And.intro ?_ ?_)
  | (intro h;cases h)
  | (intro h;rw [h])
  | (intro h)
 all_goals first
  | exact True.intro
  | exact Or.inr rfl
  | exact dE (pQ ‹_›)
  | skip
 have hl0:a.length=b.length:=lf ‹_›
 refine am (Q:=_) [0,1,5] [] (fun n s=>∃ i:Int,s=([argS 59 a,argS 59 b,.val false [.i .i64 i]],[])∧0≤i∧i≤a.length∧n=a.length - i.toNat∧a.take i.toNat=b.take i.toNat) ?_ ?_
 · exact ⟨rfl,a.length - 0,_,rfl,by omega,by omega,rfl,rfl⟩
 rintro n0 s ⟨i0,rfl,h10,h20,h30,h40⟩
 repeat' first
  | (refine And.intro ?_ ?_)
  | (intro h;cases h)
  | (intro h;rw [h])
  | (intro h)
 all_goals first
  | (show av _=true;kernel_rfl)
  | (show aX _ _=true;kernel_rfl)
  | exact True.intro
  | exact rfl
  | exact Or.inr rfl
  | omega
  | exact jck ‹_›
  | exact hl0 ▸ jck ‹decide (i0 < (a.length:Int))=true›
  | exact jN (b9 hl0 h10 h20 ‹_› h40)
  | (have hi:i0 < (a.length:Int):=jck ‹decide (i0 < (a.length:Int))=true›
     have wra0:WfRow T [.i .i64,.i .i64,.i .i64,.s,.i .i64,.i .i64,.i .i64,.s,.l 57,.l 9,.l 101] (a.getD i0.toNat []):=wA0.row rfl (by omega)
     have wrb0:WfRow T [.i .i64,.i .i64,.i .i64,.s,.i .i64,.i .i64,.i .i64,.s,.l 57,.l 9,.l 101] (b.getD i0.toNat []):=wB0.row rfl (by omega)
     first
      | exact ⟨_,_,wra0,wrb0,rfl⟩
      | exact ⟨sub (a.getD i0.toNat []) 4 7,sub (b.getD i0.toNat []) 4 7,wra0.sub 4 7 (by decide),wrb0.sub 4 7 (by decide),rfl⟩
      | (refine dE ?_;rintro rfl;simp_all [eqDs,eqD,aZ];done)
      | (refine ⟨a.length - (i0+1).toNat,by omega,i0+1,?_,by omega,by omega,rfl,cP h10 hi hl0 h40 (fC wra0 wrb0 ?_)⟩
         · exact congrArg (fun z:Int=>(([argS 59 a,argS 59 b,.val false [.i .i64 z]],[]):Snap)) (aE h10 hi lA0)
         · simp_all [eqDs,eqD,aZ,csD,CV.d,rowC,ofD,argG,sub,List.zipIdx,List.range,List.range.loop]))
theorem ok10:FOk Tryz.prog T 10 (eqG cO):=by
 refine fok (env:=envL [(30,(eqS 3)),(31,(eqS 59))]) (N:=72) tabT (aa ok30 (aa ok31 ae)) mixed Tryz.func10 rfl Tryz.call10 Tryz.ntmps10 ?_
 rintro args ⟨a,b,wa,wb,rfl⟩ hwf
 refine ⟨by simp,?_⟩
 clear hwf
 rw [Tryz.results10]
 repeat' first
  | (refine And.intro ?_ ?_)
  | (intro h;cases h)
  | (intro h;rw [h])
  | (intro h)
 all_goals first
  | exact True.intro
  | exact Or.inr rfl
  | exact ⟨_,_,rfl⟩
  | (exact dE (fun he=>by have e:=fC wa wb he;subst e;simp_all [eqDs,eqD,aZ]))
  | (refine su ?_;simp_all [eqDs,eqD,aZ,csD,CV.d,rowC,ofD,argG,sub,List.zipIdx,List.range,List.range.loop];done)
end Go.Proofs.YtcllpknipmcolaaGreatDoor.Ab
