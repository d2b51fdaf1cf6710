/- A part. -/
import Derived.Test.YtdkofgjbbdbglaaGreatDoorCJg
namespace Go.Proofs.YtdkofgjbbdbglaaGreatDoor.Ab
open Go.RowKit
set_option linter.all false
set_option maxRecDepth 100000
set_option maxHeartbeats 2000000
structure LawC (rc:ByteArray→Int→List D × Int):Prop where
 pos:∀ s:ByteArray,s.size≤1048576→0≤(rcA rc s).2∧(rcA rc s).2≤s.size
 app:∀ d e:ByteArray, ∃ l,(rcA rc (d++e)).1=(rcA rc d).1++l
 pre:∀ (s:ByteArray) (m:Nat), ∃ l,(rcA rc s).1=(rcA rc (s.extract 0 m)).1++l
 wf:∀ s:ByteArray,s.size≤1048576→∀ r ∈ (rcA rc s).1,WfRow T cO r
structure LawS (rc:ByteArray→Int→List D × Int) (r:List D→ByteArray):Prop where
 app:∀ d e:ByteArray, ∃ l,(rcA rc (d++e)).1=(rcA rc d).1++l
 wf:∀ s:ByteArray,s.size≤1048576→∀ r ∈ (rcA rc s).1,WfRow T cO r
 one:∀ (d:ByteArray) (a:List D),OpD a→(r a).toList ≠ []→(rcA rc d).2=(d.size:Int)→(rcA rc d).1.length ≠ 60→rcA rc (d++r a)=((rcA rc d).1++[a],((d++r a).size:Int))
 rsz:∀ a,OpD a→(r a).size≤90012
 len:∀ s:ByteArray,(rcA rc s).1.length≤60
theorem uX (t d:ByteArray) (n:Int):(wrB t d n=false∧wrD t d n=d)∨(wrB t d n=true∧wrD t d n=d++t∧t.toList ≠ []):=by
 cases h:stOk d n with
 | false=>exact .inl ⟨(ru h).2,(ru h).1⟩
 | true =>
   by_cases h2:t.data.toList=[]
   · exact .inl ⟨(nW h2).2,(nW h2).1⟩
   · exact .inr ⟨(rt h h2).2,(rt h h2).1,by rw [ByteArray.toList_eq];exact h2⟩
theorem zN (d e:ByteArray):(d++e).extract 0 d.size=d:=by
 apply jes
 rw [jeX,ByteArray.data_append]
 simp
theorem jar {d:ByteArray} {n:Int} (hd:d.size≤1048576) (hn:inK .i64 n):WfRow T [.s,.i .i64] [.s d,.i n]:=by
 refine ⟨rfl,fun j ct x hc hx=>?_⟩
 match j with
 | 0=>cases hc;cases hx;exact .str _ (jdd hd (by decide))
 | 1=>cases hc;cases hx;exact .int _ _ hn
 | j+2=>simp at hc
theorem ok22:FOk Tryz.prog T 22 (eqS 3):=by
 refine fok (env:=envL []) (N:=26) tabT ae mixed Tryz.func22 rfl Tryz.call22 Tryz.ntmps22 ?_
 rintro args ⟨a,b,rfl⟩ hwf
 have wa:WfD T (.l 3) (.l a):=arg0 hwf (jdo _)
 have wb:WfD T (.l 3) (.l b):=arg1 hwf (jdo _)
 clear hwf
 have la:=wa.len
 refine ⟨by simp,?_⟩
 rw [Tryz.results22]
 repeat' first
  | refine And.intro ?_ ?_
  | intro h
 all_goals first
  | exact True.intro
  | exact Or.inr rfl
  | exact c7 (ni ‹_›)
  | skip
 have hl:=kn ‹_›
 refine aj (Q:=_) [0,1,5] [] (fun n s=>∃ i:Int,s=([argS 3 a,argS 3 b,.val false [.i .i64 i]],[])∧0≤i∧i≤a.length∧n=a.length - i.toNat∧a.take i.toNat=b.take i.toNat) ?_ ?_
 · exact ⟨rfl,a.length - 0,_,rfl,by omega,by omega,rfl,rfl⟩
 rintro n s ⟨i,rfl,h1,h2,h3,h4⟩
 repeat' first
  | refine And.intro ?_ ?_
  | intro h
 all_goals first
  | (show av _=true;kernel_rfl)
  | (show ba _ _=true;kernel_rfl)
  | exact True.intro
  | exact rfl
  | exact Or.inr rfl
  | omega
  | exact jc6 ‹_›
  | exact hl ▸ jc6 ‹decide (i < (a.length:Int))=true›
  | exact iu (bU hl h1 h2 ‹_› h4)
  | (have hi:i < (a.length:Int):=jc6 ‹_›
     have wra:WfRow T [.i .i64] (a.getD i.toNat []):=wa.row rfl (by omega)
     have wrb:WfRow T [.i .i64] (b.getD i.toNat []):=wb.row rfl (by omega)
     first
      | (refine c7 ?_;rintro rfl;simp_all [eqDs,eqD,aW];done)
      | (refine ⟨a.length - (i+1).toNat,by omega,i+1,?_,by omega,by omega,rfl,cw h1 hi hl h4 (eS wra wrb ?_)⟩
         · exact congrArg (fun z=>([argS 3 a,argS 3 b,.val false [.i .i64 z]],[])) (aC h1 hi la)
         · simp_all [eqDs,eqD,aW,csD,CV.d,rowC,ofD,argG,sub,List.zipIdx,List.range,List.range.loop]))
theorem ok104:FOk Tryz.prog T 104 (eqS 9):=by
 refine fok (env:=envL []) (N:=26) tabT ae mixed Tryz.func104 rfl Tryz.call104 Tryz.ntmps104 ?_
 rintro args ⟨a,b,rfl⟩ hwf
 have wa:WfD T (.l 9) (.l a):=arg0 hwf (jdo _)
 have wb:WfD T (.l 9) (.l b):=arg1 hwf (jdo _)
 clear hwf
 have la:=wa.len
 refine ⟨by simp,?_⟩
 rw [Tryz.results104]
 repeat' first
  | refine And.intro ?_ ?_
  | intro h
 all_goals first
  | exact True.intro
  | exact Or.inr rfl
  | exact c7 (ni ‹_›)
  | skip
 have hl:=kn ‹_›
 refine aj (Q:=_) [0,1,5] [] (fun n s=>∃ i:Int,s=([argS 9 a,argS 9 b,.val false [.i .i64 i]],[])∧0≤i∧i≤a.length∧n=a.length - i.toNat∧a.take i.toNat=b.take i.toNat) ?_ ?_
 · exact ⟨rfl,a.length - 0,_,rfl,by omega,by omega,rfl,rfl⟩
 rintro n s ⟨i,rfl,h1,h2,h3,h4⟩
 repeat' first
  | refine And.intro ?_ ?_
  | intro h
 all_goals first
  | (show av _=true;kernel_rfl)
  | (show ba _ _=true;kernel_rfl)
  | exact True.intro
  | exact rfl
  | exact Or.inr rfl
  | omega
  | exact jc6 ‹_›
  | exact hl ▸ jc6 ‹decide (i < (a.length:Int))=true›
  | exact iu (bU hl h1 h2 ‹_› h4)
  | (have hi:i < (a.length:Int):=jc6 ‹_›
     have wra:WfRow T [.s] (a.getD i.toNat []):=wa.row rfl (by omega)
     have wrb:WfRow T [.s] (b.getD i.toNat []):=wb.row rfl (by omega)
     first
      | (refine c7 ?_;rintro rfl;simp_all [eqDs,eqD,aW];done)
      | (refine ⟨a.length - (i+1).toNat,by omega,i+1,?_,by omega,by omega,rfl,cw h1 hi hl h4 (eS wra wrb ?_)⟩
         · exact congrArg (fun z=>([argS 9 a,argS 9 b,.val false [.i .i64 z]],[])) (aC h1 hi la)
         · simp_all [eqDs,eqD,aW,csD,CV.d,rowC,ofD,argG,sub,List.zipIdx,List.range,List.range.loop]))
theorem ok105:FOk Tryz.prog T 105 (eqS 150):=by
 refine fok (env:=envL []) (N:=26) tabT ae mixed Tryz.func105 rfl Tryz.call105 Tryz.ntmps105 ?_
 rintro args ⟨a,b,rfl⟩ hwf
 have wa:WfD T (.l 150) (.l a):=arg0 hwf (jdo _)
 have wb:WfD T (.l 150) (.l b):=arg1 hwf (jdo _)
 clear hwf
 have la:=wa.len
 refine ⟨by simp,?_⟩
 rw [Tryz.results105]
 repeat' first
  | refine And.intro ?_ ?_
  | intro h
 all_goals first
  | exact True.intro
  | exact Or.inr rfl
  | exact c7 (ni ‹_›)
  | skip
 have hl:=kn ‹_›
 refine aj (Q:=_) [0,1,5] [] (fun n s=>∃ i:Int,s=([argS 150 a,argS 150 b,.val false [.i .i64 i]],[])∧0≤i∧i≤a.length∧n=a.length - i.toNat∧a.take i.toNat=b.take i.toNat) ?_ ?_
 · exact ⟨rfl,a.length - 0,_,rfl,by omega,by omega,rfl,rfl⟩
 rintro n s ⟨i,rfl,h1,h2,h3,h4⟩
 repeat' first
  | refine And.intro ?_ ?_
  | intro h
 all_goals first
  | (show av _=true;kernel_rfl)
  | (show ba _ _=true;kernel_rfl)
  | exact True.intro
  | exact rfl
  | exact Or.inr rfl
  | omega
  | exact jc6 ‹_›
  | exact hl ▸ jc6 ‹decide (i < (a.length:Int))=true›
  | exact iu (bU hl h1 h2 ‹_› h4)
  | (have hi:i < (a.length:Int):=jc6 ‹_›
     have wra:WfRow T [.i .i64,.i .i64] (a.getD i.toNat []):=wa.row rfl (by omega)
     have wrb:WfRow T [.i .i64,.i .i64] (b.getD i.toNat []):=wb.row rfl (by omega)
     first
      | (refine c7 ?_;rintro rfl;simp_all [eqDs,eqD,aW];done)
      | (refine ⟨a.length - (i+1).toNat,by omega,i+1,?_,by omega,by omega,rfl,cw h1 hi hl h4 (eS wra wrb ?_)⟩
         · exact congrArg (fun z=>([argS 150 a,argS 150 b,.val false [.i .i64 z]],[])) (aC h1 hi la)
         · simp_all [eqDs,eqD,aW,csD,CV.d,rowC,ofD,argG,sub,List.zipIdx,List.range,List.range.loop]))
theorem ja2 (n:Nat) (hn:FOk Tryz.prog T 73 (eqFn cV n)):FOk Tryz.prog T 73 (eqFn cV (n+1)):=by
 refine fok (env:=envL [(104,(eqS 9)),(73,(eqFn cV n)),(22,(eqS 3)),(105,(eqS 150))]) (N:=121) tabT (aa ok104 (aa hn (aa ok22 (aa ok105 ae)))) mixed Tryz.func73 rfl Tryz.call73 Tryz.ntmps73 ?_
 rintro args ⟨a,b,wa,wb,hs,rfl⟩ hwf
 refine ⟨by simp,?_⟩
 clear hwf
 have wA0:WfD T (.l 74) (.l (a.getD 4 default).rows):=wa.rows (j:=4) rfl
 have wB0:WfD T (.l 74) (.l (b.getD 4 default).rows):=wb.rows (j:=4) rfl
 have lA0:=wA0.len
 have wA1:WfD T (.l 124) (.l (a.getD 6 default).rows):=wa.rows (j:=6) rfl
 have wB1:WfD T (.l 124) (.l (b.getD 6 default).rows):=wb.rows (j:=6) rfl
 have lA1:=wA1.len
 rw [Tryz.results73]
 repeat' first
  | refine And.intro ?_ ?_
  | (intro h;cases h)
  | (intro h;rw [h])
  | intro h
 all_goals first
  | exact True.intro
  | exact Or.inr rfl
  | exact ⟨_,_,rfl⟩
  | (exact c7 (fun he=>by have e:=eS wa wb he;subst e;simp_all [eqDs,eqD,aW]))
  | skip
 have hl0:(a.getD 4 default).rows.length=(b.getD 4 default).rows.length:=kn ‹(((a.getD 4 default).rows.length:Int) != ((b.getD 4 default).rows.length:Int))=false›
 refine aj (Q:=_) [2,3,4,7] [3,4] (fun n s=>∃ i:Int,s=([.val false [.b true],.ptr 3 1 0,.ptr 4 1 0,.val false [.i .i64 i]],[(1,(rowC cV a).map fun c=>.val false [c]),(1,(rowC cV b).map fun c=>.val false [c])])∧0≤i∧i≤(a.getD 4 default).rows.length∧n=(a.getD 4 default).rows.length - i.toNat∧(a.getD 4 default).rows.take i.toNat=(b.getD 4 default).rows.take i.toNat) ?_ ?_
 · exact ⟨rfl,(a.getD 4 default).rows.length - 0,_,rfl,by omega,by omega,rfl,rfl⟩
 rintro n0 s ⟨i0,rfl,h10,h20,h30,h40⟩
 repeat' first
  | refine And.intro ?_ ?_
  | (intro h;cases h)
  | (intro h;rw [h])
  | intro h
 all_goals first
  | (show av _=true;kernel_rfl)
  | (show ba _ _=true;kernel_rfl)
  | exact True.intro
  | exact rfl
  | exact Or.inr rfl
  | omega
  | exact jc6 ‹_›
  | exact hl0 ▸ jc6 ‹decide (i0 < ((a.getD 4 default).rows.length:Int))=true›
  | (have hi:i0 < ((a.getD 4 default).rows.length:Int):=jc6 ‹decide (i0 < ((a.getD 4 default).rows.length:Int))=true›
     have wra0:WfRow T cV ((a.getD 4 default).rows.getD i0.toNat []):=wA0.row rfl (by omega)
     have wrb0:WfRow T cV ((b.getD 4 default).rows.getD i0.toNat []):=wB0.row rfl (by omega)
     first
      | exact ⟨_,_,wra0,wrb0,jd4 (Nat.lt_trans (jk (by omega)) (eK (by rw [wa.1];decide))) (jeY hs),rfl⟩
      | (exact c7 (fun he=>by have e:=eS wa wb he;subst e;simp_all [eqDs,eqD,aW]))
      | (refine ⟨(a.getD 4 default).rows.length - (i0+1).toNat,by omega,i0+1,?_,by omega,by omega,rfl,cw h10 hi hl0 h40 (eS wra0 wrb0 ?_)⟩
         · exact congrArg (fun z:Int=>(([.val false [.b true],.ptr 3 1 0,.ptr 4 1 0,.val false [.i .i64 z]],[(1,(rowC cV a).map fun c=>.val false [c]),(1,(rowC cV b).map fun c=>.val false [c])]):Snap)) (aC h10 hi lA0)
         · simp_all [eqDs,eqD,aW,csD,CV.d,rowC,ofD,argG,sub,List.zipIdx,List.range,List.range.loop]))
  | (have hA0:(a.getD 4 default).rows=(b.getD 4 default).rows:=bU hl0 h10 h20 ‹_› h40
     first
      | skip)
  | skip
 have hA0:(a.getD 4 default).rows=(b.getD 4 default).rows:=bU hl0 h10 h20 ‹decide (i0 < ((a.getD 4 default).rows.length:Int))=false› h40
 have hl1:(a.getD 6 default).rows.length=(b.getD 6 default).rows.length:=kn ‹(((a.getD 6 default).rows.length:Int) != ((b.getD 6 default).rows.length:Int))=false›
 refine aj (Q:=_) [2,3,4,8] [3,4] (fun n s=>∃ i:Int,s=([.val false [.b true],.ptr 3 1 0,.ptr 4 1 0,.val false [.i .i64 i]],[(1,(rowC cV a).map fun c=>.val false [c]),(1,(rowC cV b).map fun c=>.val false [c])])∧0≤i∧i≤(a.getD 6 default).rows.length∧n=(a.getD 6 default).rows.length - i.toNat∧(a.getD 6 default).rows.take i.toNat=(b.getD 6 default).rows.take i.toNat) ?_ ?_
 · exact ⟨rfl,(a.getD 6 default).rows.length - 0,_,rfl,by omega,by omega,rfl,rfl⟩
 rintro n1 s ⟨i1,rfl,h11,h21,h31,h41⟩
 repeat' first
  | refine And.intro ?_ ?_
  | (intro h;cases h)
  | (intro h;rw [h])
  | intro h
 all_goals first
  | (show av _=true;kernel_rfl)
  | (show ba _ _=true;kernel_rfl)
  | exact True.intro
  | exact rfl
  | exact Or.inr rfl
  | omega
  | exact jc6 ‹_›
  | exact hl1 ▸ jc6 ‹decide (i1 < ((a.getD 6 default).rows.length:Int))=true›
  | exact ⟨_,_,rfl⟩
  | (have hi:i1 < ((a.getD 6 default).rows.length:Int):=jc6 ‹decide (i1 < ((a.getD 6 default).rows.length:Int))=true›
     have wra1:WfRow T [.l 3,.l 150] ((a.getD 6 default).rows.getD i1.toNat []):=wA1.row rfl (by omega)
     have wrb1:WfRow T [.l 3,.l 150] ((b.getD 6 default).rows.getD i1.toNat []):=wB1.row rfl (by omega)
     first
      | (exact c7 (fun he=>by have e:=eS wa wb he;subst e;simp_all [eqDs,eqD,aW]))
      | (refine ⟨(a.getD 6 default).rows.length - (i1+1).toNat,by omega,i1+1,?_,by omega,by omega,rfl,cw h11 hi hl1 h41 (eS wra1 wrb1 ?_)⟩
         · exact congrArg (fun z:Int=>(([.val false [.b true],.ptr 3 1 0,.ptr 4 1 0,.val false [.i .i64 z]],[(1,(rowC cV a).map fun c=>.val false [c]),(1,(rowC cV b).map fun c=>.val false [c])]):Snap)) (aC h11 hi lA1)
         · simp_all [eqDs,eqD,aW,csD,CV.d,rowC,ofD,argG,sub,List.zipIdx,List.range,List.range.loop]))
  | (have hA1:(a.getD 6 default).rows=(b.getD 6 default).rows:=bU hl1 h11 h21 ‹_› h41
     first
      | (refine iu ?_;simp_all [eqDs,eqD,aW,csD,CV.d,rowC,ofD,argG,sub,List.zipIdx,List.range,List.range.loop];done))
theorem zZ:FOk Tryz.prog T 73 (eqFn cV 0):=by
 refine fok (env:=envL []) (N:=121) tabT ae mixed Tryz.func73 rfl Tryz.call73 Tryz.ntmps73 ?_
 rintro args ⟨a,b,wa,wb,hs,rfl⟩ _
 exact absurd hs (jdW _)
theorem all73 (n:Nat):FOk Tryz.prog T 73 (eqFn cV n):=by
 induction n with
 | zero=>exact zZ
 | succ n ih=>exact ja2 n ih
theorem ok73:FOk Tryz.prog T 73 (eqF cV):=FOk.lift (s:=fun n=>eqFn cV n) all73 (fun args ⟨a,b,wa,wb,h⟩=>⟨SizeOf.sizeOf a+1,a,b,wa,wb,jd6 _,h⟩) (fun n=>rfl)
theorem ok43:FOk Tryz.prog T 43 (eqG cV):=by
 refine fok (env:=envL [(73,(eqF cV))]) (N:=8) tabT (aa ok73 ae) mixed Tryz.func43 rfl Tryz.call43 Tryz.ntmps43 ?_
 rintro args ⟨a,b,wa,wb,rfl⟩ hwf
 refine ⟨by simp,?_⟩
 clear hwf
 rw [Tryz.results43]
 repeat' first
  | refine And.intro ?_ ?_
  | (intro h;cases h)
  | (intro h;rw [h])
  | intro h
 all_goals first
  | exact True.intro
  | exact rfl
  | exact Or.inr rfl
  | exact ⟨_,_,wa,wb,rfl⟩
theorem ok42:FOk Tryz.prog T 42 (eqP [.i .i64,.i .i64,.i .i64,.s,.i .i64,.i .i64,.i .i64,.s,.l 74,.l 9,.l 124] 4):=by
 refine fok (env:=envL []) (N:=31) tabT ae mixed Tryz.func42 rfl Tryz.call42 Tryz.ntmps42 ?_
 rintro args ⟨a,b,wa,wb,rfl⟩ hwf
 refine ⟨by simp,?_⟩
 clear hwf
 rw [Tryz.results42]
 repeat' first
  | refine And.intro ?_ ?_
  | (intro h;cases h)
  | (intro h;rw [h])
  | intro h
 all_goals first
  | exact True.intro
  | exact Or.inr rfl
  | (refine c7 ?_;simp_all [eqDs,eqD,aW,csD,CV.d,rowC,ofD,argG,sub,List.zipIdx,List.range,List.range.loop];done)
  | (refine sN ?_;simp_all [eqDs,eqD,aW,csD,CV.d,rowC,ofD,argG,sub,List.zipIdx,List.range,List.range.loop];done)
theorem ok23:FOk Tryz.prog T 23 (eqS 76):=by
 refine fok (env:=envL [(42,(eqP [.i .i64,.i .i64,.i .i64,.s,.i .i64,.i .i64,.i .i64,.s,.l 74,.l 9,.l 124] 4)),(43,(eqG cV))]) (N:=41) tabT (aa ok42 (aa ok43 ae)) mixed Tryz.func23 rfl Tryz.call23 Tryz.ntmps23 ?_
 rintro args ⟨a,b,rfl⟩ hwf
 refine ⟨by simp,?_⟩
 have wa:WfD T (.l 76) (.l a):=arg0 hwf (jdo _)
 have wb:WfD T (.l 76) (.l b):=arg1 hwf (jdo _)
 clear hwf
 have wA0:=wa
 have wB0:=wb
 have lA0:=wa.len
 rw [Tryz.results23]
 repeat' first
  | refine And.intro ?_ ?_
  | (intro h;cases h)
  | (intro h;rw [h])
  | intro h
 all_goals first
  | exact True.intro
  | exact Or.inr rfl
  | exact c7 (ni ‹_›)
  | skip
 have hl0:a.length=b.length:=kn ‹_›
 refine aj (Q:=_) [0,1,5] [] (fun n s=>∃ i:Int,s=([argS 76 a,argS 76 b,.val false [.i .i64 i]],[])∧0≤i∧i≤a.length∧n=a.length - i.toNat∧a.take i.toNat=b.take i.toNat) ?_ ?_
 · exact ⟨rfl,a.length - 0,_,rfl,by omega,by omega,rfl,rfl⟩
 rintro n0 s ⟨i0,rfl,h10,h20,h30,h40⟩
 repeat' first
  | refine And.intro ?_ ?_
  | (intro h;cases h)
  | (intro h;rw [h])
  | intro h
 all_goals first
  | (show av _=true;kernel_rfl)
  | (show ba _ _=true;kernel_rfl)
  | exact True.intro
  | exact rfl
  | exact Or.inr rfl
  | omega
  | exact jc6 ‹_›
  | exact hl0 ▸ jc6 ‹decide (i0 < (a.length:Int))=true›
  | exact iu (bU hl0 h10 h20 ‹_› h40)
  | (have hi:i0 < (a.length:Int):=jc6 ‹decide (i0 < (a.length:Int))=true›
     have wra0:WfRow T [.i .i64,.i .i64,.i .i64,.s,.i .i64,.i .i64,.i .i64,.s,.l 74,.l 9,.l 124] (a.getD i0.toNat []):=wA0.row rfl (by omega)
     have wrb0:WfRow T [.i .i64,.i .i64,.i .i64,.s,.i .i64,.i .i64,.i .i64,.s,.l 74,.l 9,.l 124] (b.getD i0.toNat []):=wB0.row rfl (by omega)
     first
      | exact ⟨_,_,wra0,wrb0,rfl⟩
      | exact ⟨sub (a.getD i0.toNat []) 4 7,sub (b.getD i0.toNat []) 4 7,wra0.sub 4 7 (by decide),wrb0.sub 4 7 (by decide),rfl⟩
      | (refine c7 ?_;rintro rfl;simp_all [eqDs,eqD,aW];done)
      | (refine ⟨a.length - (i0+1).toNat,by omega,i0+1,?_,by omega,by omega,rfl,cw h10 hi hl0 h40 (eS wra0 wrb0 ?_)⟩
         · exact congrArg (fun z:Int=>(([argS 76 a,argS 76 b,.val false [.i .i64 z]],[]):Snap)) (aC h10 hi lA0)
         · simp_all [eqDs,eqD,aW,csD,CV.d,rowC,ofD,argG,sub,List.zipIdx,List.range,List.range.loop]))
theorem ok12:FOk Tryz.prog T 12 (eqG cO):=by
 refine fok (env:=envL [(22,(eqS 3)),(23,(eqS 76))]) (N:=72) tabT (aa ok22 (aa ok23 ae)) mixed Tryz.func12 rfl Tryz.call12 Tryz.ntmps12 ?_
 rintro args ⟨a,b,wa,wb,rfl⟩ hwf
 refine ⟨by simp,?_⟩
 clear hwf
 rw [Tryz.results12]
 repeat' first
  | refine And.intro ?_ ?_
  | (intro h;cases h)
  | (intro h;rw [h])
  | intro h
 all_goals first
  | exact True.intro
  | exact Or.inr rfl
  | exact ⟨_,_,rfl⟩
  | (exact c7 (fun he=>by have e:=eS wa wb he;subst e;simp_all [eqDs,eqD,aW]))
  | (refine sN ?_;simp_all [eqDs,eqD,aW,csD,CV.d,rowC,ofD,argG,sub,List.zipIdx,List.range,List.range.loop];done)
theorem ok11:FOk Tryz.prog T 11 (eqS 33):=by
 refine fok (env:=envL [(12,(eqG cO))]) (N:=27) tabT (aa ok12 ae) mixed Tryz.func11 rfl Tryz.call11 Tryz.ntmps11 ?_
 rintro args ⟨a,b,rfl⟩ hwf
 have wa:WfD T (.l 33) (.l a):=arg0 hwf (jdo _)
 have wb:WfD T (.l 33) (.l b):=arg1 hwf (jdo _)
 clear hwf
 have la:=wa.len
 refine ⟨by simp,?_⟩
 rw [Tryz.results11]
 repeat' first
  | refine And.intro ?_ ?_
  | intro h
 all_goals first
  | exact True.intro
  | exact Or.inr rfl
  | exact c7 (ni ‹_›)
  | skip
 have hl:=kn ‹_›
 refine aj (Q:=_) [0,1,5] [] (fun n s=>∃ i:Int,s=([argS 33 a,argS 33 b,.val false [.i .i64 i]],[])∧0≤i∧i≤a.length∧n=a.length - i.toNat∧a.take i.toNat=b.take i.toNat) ?_ ?_
 · exact ⟨rfl,a.length - 0,_,rfl,by omega,by omega,rfl,rfl⟩
 rintro n s ⟨i,rfl,h1,h2,h3,h4⟩
 repeat' first
  | refine And.intro ?_ ?_
  | intro h
 all_goals first
  | (show av _=true;kernel_rfl)
  | (show ba _ _=true;kernel_rfl)
  | exact True.intro
  | exact rfl
  | exact Or.inr rfl
  | omega
  | exact jc6 ‹_›
  | exact hl ▸ jc6 ‹decide (i < (a.length:Int))=true›
  | exact iu (bU hl h1 h2 ‹_› h4)
  | (have hi:i < (a.length:Int):=jc6 ‹_›
     have wra:WfRow T cO (a.getD i.toNat []):=wa.row rfl (by omega)
     have wrb:WfRow T cO (b.getD i.toNat []):=wb.row rfl (by omega)
     first
      | exact ⟨_,_,wra,wrb,rfl⟩
      | (refine c7 ?_;rintro rfl;simp_all [eqDs,eqD,aW];done)
      | (refine ⟨a.length - (i+1).toNat,by omega,i+1,?_,by omega,by omega,rfl,cw h1 hi hl h4 (eS wra wrb ?_)⟩
         · exact congrArg (fun z=>([argS 33 a,argS 33 b,.val false [.i .i64 z]],[])) (aC h1 hi la)
         · simp_all [eqDs,eqD,aW,csD,CV.d,rowC,ofD,argG,sub,List.zipIdx,List.range,List.range.loop]))
def ja7 (e:TypeId):FSpec where
 pre args:=∃ rows:List (List D),args=[argS e rows]
 res args:=match args with
  | [.val _ [.sl _ _ rows]]=>.val false [.b (decide ((rows.length:Int) > 1048576))]
  | _=>.none
def lawB (e:TypeId):FSpec where
 pre args:=∃ rows:List (List D),args=[argS e rows]
 res _:=.val false [.b true]
theorem okBig:FOk Tryz.prog T 4 (ja7 5):=by
 refine fok (env:=envL []) (N:=6) tabT ae mixed Tryz.func4 rfl Tryz.call4 Tryz.ntmps4 ?_
 rintro args ⟨rows,rfl⟩ hwf
 clear hwf
 refine ⟨by simp,?_⟩
 rw [Tryz.results4]
 repeat' first
  | refine And.intro ?_ ?_
  | (intro h;simp only [reduceCtorEq] at h;done)
  | (intro h;rw [h])
  | intro h
 all_goals first
  | exact True.intro
  | exact Or.inr rfl
  | rfl
theorem vtS {a:ByteArray} {p:Prop} (h:(!(a.toList == a.toList))=true):p:=by simp at h
theorem vtZ {b c:Int} {p:Prop} (e:b=c) (h:(b != c)=true):p:=by subst e;simp at h
theorem vtT {b:Bool} {p:Prop} (e:b=true) (h:b=false):p:=by rw [e] at h;cases h
theorem vtF {b:Bool} {p:Prop} (e:b=false) (h:b=true):p:=by rw [e] at h;cases h
theorem vtN {b:Bool} {p:Prop} (e:b=true) (h:(!b)=true):p:=by rw [e] at h;cases h
theorem vtM {b:Bool} {p:Prop} (e:b=false) (h:(!b)=false):p:=by rw [e] at h;cases h
theorem vtX {b c:Bool} {p:Prop} (e:b=c) (h:(b != c)=true):p:=by subst e;simp at h
theorem vtTe {a b:ByteArray} {p:Prop} (e:a=b) (h:(!(a.toList == b.toList))=true):p:=by subst e;simp at h
theorem vtDe {a b:List (List D)} {p:Prop} (e:a=b) (h:(!decide (a=b))=true):p:=by subst e;simp at h
theorem vtZe {a b:Int} {p:Prop} (e:a=b) (h:(a != b)=true):p:=by subst e;simp at h
theorem vtZf {a b:Int} {p:Prop} (e:a ≠ b) (h:(a != b)=false):p:=absurd (by simpa using h) e
theorem vtEt {a b:Int} {p:Prop} (e:a ≠ b) (h:(a == b)=true):p:=absurd (by simpa using h) e
theorem vtEf {a b:Int} {p:Prop} (e:a=b) (h:(a == b)=false):p:=absurd e (by simpa using h)
set_option maxHeartbeats 8000000 in
theorem core3 {rc:ByteArray→Int→List D × Int} {r:List D→ByteArray} (F:LawS rc r) (h1:FOk Tryz.prog T 6 (spWr T [.s,.i .i64] cO SmO r)) (h2:FOk Tryz.prog T 7 (spWr T [.s,.i .i64] cO SmO r)) (h3:FOk Tryz.prog T 8 (spRO rc)) (h4:FOk Tryz.prog T 9 (spRO rc)):FOk Tryz.prog T 3 (lawB 5):=by
 obtain ⟨g5,k5,q5⟩:=any5
 refine fok (env:=envL [(4,(ja7 5)),(5, { pre:=fun a=>∃ rows:List (List D),rows.length≤1048576∧a=[argS 5 rows],res:=fun a=>(fun x:((ByteArray × Int) × OLs)=>.tup [(true,[.s x.1.1,.i .i64 x.1.2]),(true,[.i .i64 x.2.a0,.i .i64 x.2.a1,.i .i64 x.2.a2,.sl false 3 x.2.sn,.i .i64 x.2.e.k,.i .i64 x.2.e.at_,.i .i64 x.2.e.c.id,.i .i64 x.2.e.c.ve,.i .i64 x.2.e.c.k,.s x.2.e.c.nm,.s x.2.e.c.cd,.i .i64 x.2.e.c.n,.s x.2.fr,.s x.2.tt,.i .i64 x.2.ce,.i .i64 x.2.ve,.sl false 76 x.2.rd])]) (g5 a) }),(6,(spWr T [.s,.i .i64] cO SmO r)),(7,(spWr T [.s,.i .i64] cO SmO r)),(8,(spRO rc)),(9,(spRO rc)),(10,(vp T [.s,.i .i64])),(11,(eqS 33)),(12,(eqG cO))]) (N:=115) tabT (aa okBig (aa k5 (aa h1 (aa h2 (aa h3 (aa h4 (aa ok10 (aa ok11 (aa ok12 ae))))))))) mixed Tryz.func3 rfl Tryz.call3 Tryz.ntmps3 ?_
 rintro args ⟨rows,rfl⟩ hwf
 refine ⟨by simp,?_⟩
 clear hwf
 rw [Tryz.results3]
 by_cases hbig:(rows.length:Int) > 1048576
 · repeat' first
    | refine And.intro ?_ ?_
    | (intro h;exact absurd hbig (jdh h))
    | intro h
   all_goals first
    | exact True.intro
    | exact Or.inr rfl
    | exact ⟨_,rfl⟩
    | exact Eq.refl [CV.b true]
 have hr:rows.length≤1048576:=by omega
 have hbf:decide ((rows.length:Int) > 1048576)=false:=decide_eq_false hbig
 obtain ⟨X,hX⟩:∃ x,g5 [.val false [.sl false 5 rows]]=x:=⟨_,rfl⟩
 have qx:=q5 [.val false [.sl false 5 rows]]
 rw [hX] at qx
 clear k5 q5 h1 h2 h3 h4 hbig
 obtain ⟨⟨xd,xy⟩,xo⟩:=qx
 have dz:X.1.1.size≤1048576:=jdd xd (by decide)
 have wst:WfRow T [.s,.i .i64] [.s X.1.1,.i X.1.2]:=yo xd xy
 have wsz:(([D.s X.1.1,D.i X.1.2]:List D).getD 0 default).str.size≤70368744177664:=jdd xd (by decide)
 have hop:OpD (csD [.i .i64 X.2.a0,.i .i64 X.2.a1,.i .i64 X.2.a2,.sl false 3 X.2.sn,.i .i64 X.2.e.k,.i .i64 X.2.e.at_,.i .i64 X.2.e.c.id,.i .i64 X.2.e.c.ve,.i .i64 X.2.e.c.k,.s X.2.e.c.nm,.s X.2.e.c.cd,.i .i64 X.2.e.c.n,.s X.2.fr,.s X.2.tt,.i .i64 X.2.ce,.i .i64 X.2.ve,.sl false 76 X.2.rd]):=⟨X.2,rfl,xo⟩
 have ow:=hop.wf
 have hos:=hop.sm
 have sr:=F.rsz _ hop
 obtain ⟨R,hR⟩:∃ x,r (csD [.i .i64 X.2.a0,.i .i64 X.2.a1,.i .i64 X.2.a2,.sl false 3 X.2.sn,.i .i64 X.2.e.k,.i .i64 X.2.e.at_,.i .i64 X.2.e.c.id,.i .i64 X.2.e.c.ve,.i .i64 X.2.e.c.k,.s X.2.e.c.nm,.s X.2.e.c.cd,.i .i64 X.2.e.c.n,.s X.2.fr,.s X.2.tt,.i .i64 X.2.ce,.i .i64 X.2.ve,.sl false 76 X.2.rd])=x:=⟨_,rfl⟩
 have hone:=F.one X.1.1 _ hop
 rw [hR] at sr hone
 obtain ⟨E,hD⟩:∃ x,wrD R X.1.1 X.1.2=x:=⟨_,rfl⟩
 obtain ⟨k,hW⟩:∃ x,wrB R X.1.1 X.1.2=x:=⟨_,rfl⟩
 have hcs:=uX R X.1.1 X.1.2
 rw [hD,hW] at hcs
 obtain ⟨hw,he⟩|⟨hw,he,hne⟩:=hcs
 · have hb1:True:=trivial
   have hpre:True:=trivial
   have hsame:True:=trivial
   subst he
   repeat' first
    | refine And.intro ?_ ?_
    | (rw [hX])
    | (rw [hR])
    | (rw [hD])
    | (rw [hW])
    | (rw [hA])
    | (rw [hB])
    | (intro h;simp only [reduceCtorEq] at h;done)
    | (intro h;exact vtT hbf h)
    | (intro h;exact vtF hbf h)
    | (intro h;exact vtS h)
    | (intro h;exact vtX rfl h)
    | (intro h;exact vtX hb1 h)
    | (intro h;exact vtN hw h)
    | (intro h;exact vtM hw h)
    | (intro h;exact vtZ rfl h)
    | (intro h;exact vtTe hpre h)
    | (intro h;exact vtDe hsame h)
    | (intro h;rw [h])
    | intro h
   all_goals first
    | exact True.intro
    | exact Or.inr rfl
    | exact ⟨_,rfl⟩
    | exact ⟨_,hr,rfl⟩
    | exact ⟨[.s X.1.1,.i X.1.2],_,wst,ow,hos,wsz,rfl⟩
    | (simp [eqDs,eqD];done)
 have rz:E.size≤1048576:=by rw [he,jdr];omega
 have wso:WfRow T [.s,.i .i64] [.s E,.i X.1.2]:=by
  have:=su rz
  exact jar rz xy
 have hb1:True:=trivial
 obtain ⟨A,hA⟩:∃ x,rcA rc X.1.1=x:=⟨_,rfl⟩
 obtain ⟨B,hB⟩:∃ x,rcA rc E=x:=⟨_,rfl⟩
 have hpre:E.extract (Int.toNat 0) (Int.toNat ((X.1.1.size:Nat):Int))=X.1.1:=by rw [he];exact zN _ _
 have hle2:((X.1.1.size:Nat):Int)≤(E.size:Int):=by rw [he,jdr];omega
 obtain ⟨l,e1⟩:=F.app X.1.1 R
 rw [← he,hA,hB] at e1
 have hle1:(A.1.length:Int)≤(B.1.length:Int):=by rw [e1,jc8];omega
 have hsame:(B.1.drop 0).take A.1.length=A.1:=by rw [e1];simp
 rw [← he,hA,hB] at hone
 by_cases hn:A.2=(X.1.1.size:Int)
 · by_cases hl:(A.1.length:Int)=60
   · skip
     repeat' first
      | refine And.intro ?_ ?_
      | (rw [hX])
      | (rw [hR])
      | (rw [hD])
      | (rw [hW])
      | (rw [hA])
      | (rw [hB])
      | (intro h;simp only [reduceCtorEq] at h;done)
      | (intro h;exact vtT hbf h)
      | (intro h;exact vtF hbf h)
      | (intro h;exact vtS h)
      | (intro h;exact vtX rfl h)
      | (intro h;exact vtX hb1 h)
      | (intro h;exact vtN hw h)
      | (intro h;exact vtM hw h)
      | (intro h;exact vtZ rfl h)
      | (intro h;exact vtTe hpre h)
      | (intro h;exact vtDe hsame h)
      | (intro h;exact vtZf hn h)
      | (intro h;exact vtZe hn h)
      | (intro h;exact vtEf hl h)
      | (intro h;rw [h])
      | intro h
     all_goals first
      | (show av _=true;kernel_rfl)
      | (show ba _ _=true;kernel_rfl)
      | exact True.intro
      | exact Or.inr rfl
      | exact ⟨_,rfl⟩
      | exact ⟨_,hr,rfl⟩
      | exact Eq.refl [CV.b true]
      | exact ⟨[.s X.1.1,.i X.1.2],_,wst,ow,hos,wsz,rfl⟩
      | exact ⟨_,dz,rfl⟩
      | exact ⟨_,rz,rfl⟩
      | exact ⟨[.s _,.i _],wso,rfl⟩
      | exact ⟨_,_,rfl⟩
      | exact jdk _
      | exact hle1
      | exact hle2
   have hB2:=hone hne hn (by omega)
   have b1:B.1=A.1++[csD [.i .i64 X.2.a0,.i .i64 X.2.a1,.i .i64 X.2.a2,.sl false 3 X.2.sn,.i .i64 X.2.e.k,.i .i64 X.2.e.at_,.i .i64 X.2.e.c.id,.i .i64 X.2.e.c.ve,.i .i64 X.2.e.c.k,.s X.2.e.c.nm,.s X.2.e.c.cd,.i .i64 X.2.e.c.n,.s X.2.fr,.s X.2.tt,.i .i64 X.2.ce,.i .i64 X.2.ve,.sl false 76 X.2.rd]]:=congrArg Prod.fst hB2
   have b2:B.2=(E.size:Int):=congrArg Prod.snd hB2
   have h60:A.1.length≤60:=by have:=F.len X.1.1;rw [hA] at this;exact this
   have hlen:(B.1.length:Int)=IntKind.i64.wrap ((A.1.length:Int)+1):=by
    rw [yk (n:=61) (jdk _) (by decide) (by omega) (by decide),b1,jc8];rfl
   have hlt:(A.1.length:Int) < (B.1.length:Int):=by rw [b1,jc8];show (A.1.length:Int) < ((A.1.length+1:Nat):Int);omega
   have hrow:B.1.getD (Int.toNat (A.1.length:Int)) []=csD [.i .i64 X.2.a0,.i .i64 X.2.a1,.i .i64 X.2.a2,.sl false 3 X.2.sn,.i .i64 X.2.e.k,.i .i64 X.2.e.at_,.i .i64 X.2.e.c.id,.i .i64 X.2.e.c.ve,.i .i64 X.2.e.c.k,.s X.2.e.c.nm,.s X.2.e.c.cd,.i .i64 X.2.e.c.n,.s X.2.fr,.s X.2.tt,.i .i64 X.2.ce,.i .i64 X.2.ve,.sl false 76 X.2.rd]:=by rw [b1,jds];simp
   · skip
     repeat' first
      | refine And.intro ?_ ?_
      | (rw [hX])
      | (rw [hR])
      | (rw [hD])
      | (rw [hW])
      | (rw [hA])
      | (rw [hB])
      | (intro h;simp only [reduceCtorEq] at h;done)
      | (intro h;exact vtT hbf h)
      | (intro h;exact vtF hbf h)
      | (intro h;exact vtS h)
      | (intro h;exact vtX rfl h)
      | (intro h;exact vtX hb1 h)
      | (intro h;exact vtN hw h)
      | (intro h;exact vtM hw h)
      | (intro h;exact vtZ rfl h)
      | (intro h;exact vtTe hpre h)
      | (intro h;exact vtDe hsame h)
      | (rw [hrow])
      | (intro h;exact vtZe hn h)
      | (intro h;exact vtEt hl h)
      | (intro h;exact vtEf b2 h)
      | (intro h;exact vtEf hlen h)
      | (intro h;rw [h])
      | intro h
     all_goals first
      | (show av _=true;kernel_rfl)
      | (show ba _ _=true;kernel_rfl)
      | exact True.intro
      | exact Or.inr rfl
      | exact ⟨_,rfl⟩
      | exact ⟨_,hr,rfl⟩
      | exact ⟨[.s X.1.1,.i X.1.2],_,wst,ow,hos,wsz,rfl⟩
      | exact ⟨_,dz,rfl⟩
      | exact ⟨_,rz,rfl⟩
      | exact ⟨[.s _,.i _],wso,rfl⟩
      | exact ⟨_,_,rfl⟩
      | exact jdk _
      | exact hle1
      | exact hle2
      | exact hlt
      | exact ⟨csD [.i .i64 X.2.a0,.i .i64 X.2.a1,.i .i64 X.2.a2,.sl false 3 X.2.sn,.i .i64 X.2.e.k,.i .i64 X.2.e.at_,.i .i64 X.2.e.c.id,.i .i64 X.2.e.c.ve,.i .i64 X.2.e.c.k,.s X.2.e.c.nm,.s X.2.e.c.cd,.i .i64 X.2.e.c.n,.s X.2.fr,.s X.2.tt,.i .i64 X.2.ce,.i .i64 X.2.ve,.sl false 76 X.2.rd],csD [.i .i64 X.2.a0,.i .i64 X.2.a1,.i .i64 X.2.a2,.sl false 3 X.2.sn,.i .i64 X.2.e.k,.i .i64 X.2.e.at_,.i .i64 X.2.e.c.id,.i .i64 X.2.e.c.ve,.i .i64 X.2.e.c.k,.s X.2.e.c.nm,.s X.2.e.c.cd,.i .i64 X.2.e.c.n,.s X.2.fr,.s X.2.tt,.i .i64 X.2.ce,.i .i64 X.2.ve,.sl false 76 X.2.rd],ow,ow,rfl⟩
      | exact congrArg (fun b:Bool=>[CV.b b]) (decide_eq_true rfl)
 · skip
   repeat' first
    | refine And.intro ?_ ?_
    | (rw [hX])
    | (rw [hR])
    | (rw [hD])
    | (rw [hW])
    | (rw [hA])
    | (rw [hB])
    | (intro h;simp only [reduceCtorEq] at h;done)
    | (intro h;exact vtT hbf h)
    | (intro h;exact vtF hbf h)
    | (intro h;exact vtS h)
    | (intro h;exact vtX rfl h)
    | (intro h;exact vtX hb1 h)
    | (intro h;exact vtN hw h)
    | (intro h;exact vtM hw h)
    | (intro h;exact vtZ rfl h)
    | (intro h;exact vtTe hpre h)
    | (intro h;exact vtDe hsame h)
    | (intro h;exact vtZf hn h)
    | (intro h;rw [h])
    | intro h
   all_goals first
    | (show av _=true;kernel_rfl)
    | (show ba _ _=true;kernel_rfl)
    | exact True.intro
    | exact Or.inr rfl
    | exact ⟨_,rfl⟩
    | exact ⟨_,hr,rfl⟩
    | exact Eq.refl [CV.b true]
    | exact ⟨[.s X.1.1,.i X.1.2],_,wst,ow,hos,wsz,rfl⟩
    | exact ⟨_,dz,rfl⟩
    | exact ⟨_,rz,rfl⟩
    | exact ⟨[.s _,.i _],wso,rfl⟩
    | exact ⟨_,_,rfl⟩
    | exact jdk _
    | exact hle1
    | exact hle2
end Go.Proofs.YtdkofgjbbdbglaaGreatDoor.Ab
