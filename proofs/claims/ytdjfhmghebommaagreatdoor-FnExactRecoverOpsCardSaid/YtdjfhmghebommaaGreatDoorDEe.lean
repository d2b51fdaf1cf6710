/- A part. -/
import Derived.Test.YtdjfhmghebommaaGreatDoorDTa
namespace Go.Proofs.YtdjfhmghebommaaGreatDoor.Ab
open Go.RowKit
set_option linter.all false
set_option maxRecDepth 100000
set_option maxHeartbeats 1000000
theorem ok144:FOk Tryz.prog T 144 (eqS 9):=by
 refine fok (env:=envL []) (N:=26) tabT af mixed Tryz.func144 rfl Tryz.call144 Tryz.ntmps144 ?_
 rintro args ⟨a,b,rfl⟩ hwf
 have wa:WfD T (.l 9) (.l a):=arg0 hwf (jb6 _)
 have wb:WfD T (.l 9) (.l b):=arg1 hwf (jb6 _)
 clear hwf
 have la:=wa.len
 refine ⟨by simp,?_⟩
 rw [Tryz.results144]
 repeat' first
  | refine And.intro ?_ ?_
  | intro h
 all_goals first
  | (show aa _=true;kernel_rfl)|(show am _ _=true;kernel_rfl)|exact True.intro|exact rfl|exact Or.inr rfl|exact Or.inl rfl
  | exact bW (ki ‹_›)
  | skip
 have hl:=kw ‹_›
 refine ap (Q:=_) [0,1,5] [] (fun n s=>∃ i:Int,s=([argS 9 a,argS 9 b,.val false [.i .i64 i]],[])∧0≤i∧i≤a.length∧n=a.length - i.toNat∧a.take i.toNat=b.take i.toNat) ?_ ?_
 · exact ⟨rfl,a.length - 0,_,rfl,by omega,by omega,rfl,rfl⟩
 rintro n s ⟨i,rfl,h1,h2,h3,h4⟩
 repeat' first
  | refine And.intro ?_ ?_
  | intro h
 all_goals first
  | (show aa _=true;kernel_rfl)|(show am _ _=true;kernel_rfl)|exact True.intro|exact rfl|exact Or.inr rfl|exact Or.inl rfl
  | omega
  | exact jbO ‹_›
  | exact hl ▸ jbO ‹decide (i < (a.length:Int))=true›
  | exact ⟨_,_,rfl⟩
  | exact ck (b9 hl h1 h2 ‹_› h4)
  | (have hi:i < (a.length:Int):=jbO ‹_›
     have wra:WfRow T [.s] (a.getD i.toNat []):=wa.row rfl (by omega)
     have wrb:WfRow T [.s] (b.getD i.toNat []):=wb.row rfl (by omega)
     first
      | exact ⟨_,_,wra,wrb,rfl⟩
      | exact ⟨_,_,wra,wrb,jcM (cP (by omega)) (jdG hs),rfl⟩
      | (refine bW ?_;rintro rfl;simp_all [eqDs,eqD,aS];done)
      | (refine ⟨a.length - (i+1).toNat,by omega,i+1,?_,by omega,by omega,rfl,cr h1 hi hl h4 (du wra wrb ?_)⟩
         · exact congrArg (fun z=>([argS 9 a,argS 9 b,.val false [.i .i64 z]],[])) (aC h1 hi la)
         · simp_all [eqDs,eqD,aS,csD,CV.d,rowC,ofD,argG,sub,List.zipIdx,List.range,List.range.loop]))
  | rfl
theorem ok28:FOk Tryz.prog T 28 (eqS 3):=by
 refine fok (env:=envL []) (N:=26) tabT af mixed Tryz.func28 rfl Tryz.call28 Tryz.ntmps28 ?_
 rintro args ⟨a,b,rfl⟩ hwf
 have wa:WfD T (.l 3) (.l a):=arg0 hwf (jb6 _)
 have wb:WfD T (.l 3) (.l b):=arg1 hwf (jb6 _)
 clear hwf
 have la:=wa.len
 refine ⟨by simp,?_⟩
 rw [Tryz.results28]
 repeat' first
  | refine And.intro ?_ ?_
  | intro h
 all_goals first
  | (show aa _=true;kernel_rfl)|(show am _ _=true;kernel_rfl)|exact True.intro|exact rfl|exact Or.inr rfl|exact Or.inl rfl
  | exact bW (ki ‹_›)
  | skip
 have hl:=kw ‹_›
 refine ap (Q:=_) [0,1,5] [] (fun n s=>∃ i:Int,s=([argS 3 a,argS 3 b,.val false [.i .i64 i]],[])∧0≤i∧i≤a.length∧n=a.length - i.toNat∧a.take i.toNat=b.take i.toNat) ?_ ?_
 · exact ⟨rfl,a.length - 0,_,rfl,by omega,by omega,rfl,rfl⟩
 rintro n s ⟨i,rfl,h1,h2,h3,h4⟩
 repeat' first
  | refine And.intro ?_ ?_
  | intro h
 all_goals first
  | (show aa _=true;kernel_rfl)|(show am _ _=true;kernel_rfl)|exact True.intro|exact rfl|exact Or.inr rfl|exact Or.inl rfl
  | omega
  | exact jbO ‹_›
  | exact hl ▸ jbO ‹decide (i < (a.length:Int))=true›
  | exact ⟨_,_,rfl⟩
  | exact ck (b9 hl h1 h2 ‹_› h4)
  | (have hi:i < (a.length:Int):=jbO ‹_›
     have wra:WfRow T [.i .i64] (a.getD i.toNat []):=wa.row rfl (by omega)
     have wrb:WfRow T [.i .i64] (b.getD i.toNat []):=wb.row rfl (by omega)
     first
      | exact ⟨_,_,wra,wrb,rfl⟩
      | exact ⟨_,_,wra,wrb,jcM (cP (by omega)) (jdG hs),rfl⟩
      | (refine bW ?_;rintro rfl;simp_all [eqDs,eqD,aS];done)
      | (refine ⟨a.length - (i+1).toNat,by omega,i+1,?_,by omega,by omega,rfl,cr h1 hi hl h4 (du wra wrb ?_)⟩
         · exact congrArg (fun z=>([argS 3 a,argS 3 b,.val false [.i .i64 z]],[])) (aC h1 hi la)
         · simp_all [eqDs,eqD,aS,csD,CV.d,rowC,ofD,argG,sub,List.zipIdx,List.range,List.range.loop]))
  | rfl
theorem ok200:FOk Tryz.prog T 200 (eqG [.i .i64,.i .i64]):=by
 refine fok (env:=envL []) (N:=15) tabT af mixed Tryz.func200 rfl Tryz.call200 Tryz.ntmps200 ?_
 rintro args ⟨a,b,wa,wb,rfl⟩ _
 refine ⟨by simp,?_⟩
 rw [Tryz.results200]
 repeat' first
  | refine And.intro ?_ ?_
  | intro h
 all_goals first
  | (show aa _=true;kernel_rfl)|(show am _ _=true;kernel_rfl)|exact True.intro|exact rfl|exact Or.inr rfl|exact Or.inl rfl
  | exact ⟨_,_,rfl⟩
  | exact ⟨_,_,jcM (cj (by rw [wa.1];decide)) (jdG hs),rfl⟩
  | exact ⟨sub a 0 1,sub b 0 1,wa.sub 0 1 (by decide),wb.sub 0 1 (by decide),rfl⟩|exact ⟨sub a 1 1,sub b 1 1,wa.sub 1 1 (by decide),wb.sub 1 1 (by decide),rfl⟩
  | (exact bW (fun he=>by have e:=du wa wb he;subst e;simp_all))
  | (refine ck ?_;simp_all [eqDs,eqD,aS,csD,CV.d,rowC,ofD,argG,sub,List.zipIdx,List.range,List.range.loop];done)
theorem ok188:FOk Tryz.prog T 188 (eqS 147):=by
 refine fok (env:=envL [(200,(eqG [.i .i64,.i .i64]))]) (N:=27) tabT (ac ok200 af) mixed Tryz.func188 rfl Tryz.call188 Tryz.ntmps188 ?_
 rintro args ⟨a,b,rfl⟩ hwf
 have wa:WfD T (.l 147) (.l a):=arg0 hwf (jb6 _)
 have wb:WfD T (.l 147) (.l b):=arg1 hwf (jb6 _)
 clear hwf
 have la:=wa.len
 refine ⟨by simp,?_⟩
 rw [Tryz.results188]
 repeat' first
  | refine And.intro ?_ ?_
  | intro h
 all_goals first
  | (show aa _=true;kernel_rfl)|(show am _ _=true;kernel_rfl)|exact True.intro|exact rfl|exact Or.inr rfl|exact Or.inl rfl
  | exact bW (ki ‹_›)
  | skip
 have hl:=kw ‹_›
 refine ap (Q:=_) [0,1,5] [] (fun n s=>∃ i:Int,s=([argS 147 a,argS 147 b,.val false [.i .i64 i]],[])∧0≤i∧i≤a.length∧n=a.length - i.toNat∧a.take i.toNat=b.take i.toNat) ?_ ?_
 · exact ⟨rfl,a.length - 0,_,rfl,by omega,by omega,rfl,rfl⟩
 rintro n s ⟨i,rfl,h1,h2,h3,h4⟩
 repeat' first
  | refine And.intro ?_ ?_
  | intro h
 all_goals first
  | (show aa _=true;kernel_rfl)|(show am _ _=true;kernel_rfl)|exact True.intro|exact rfl|exact Or.inr rfl|exact Or.inl rfl
  | omega
  | exact jbO ‹_›
  | exact hl ▸ jbO ‹decide (i < (a.length:Int))=true›
  | exact ⟨_,_,rfl⟩
  | exact ck (b9 hl h1 h2 ‹_› h4)
  | (have hi:i < (a.length:Int):=jbO ‹_›
     have wra:WfRow T [.i .i64,.i .i64] (a.getD i.toNat []):=wa.row rfl (by omega)
     have wrb:WfRow T [.i .i64,.i .i64] (b.getD i.toNat []):=wb.row rfl (by omega)
     first
      | exact ⟨_,_,wra,wrb,rfl⟩
      | exact ⟨_,_,wra,wrb,jcM (cP (by omega)) (jdG hs),rfl⟩
      | (refine bW ?_;rintro rfl;simp_all [eqDs,eqD,aS];done)
      | (refine ⟨a.length - (i+1).toNat,by omega,i+1,?_,by omega,by omega,rfl,cr h1 hi hl h4 (du wra wrb ?_)⟩
         · exact congrArg (fun z=>([argS 147 a,argS 147 b,.val false [.i .i64 z]],[])) (aC h1 hi la)
         · simp_all [eqDs,eqD,aS,csD,CV.d,rowC,ofD,argG,sub,List.zipIdx,List.range,List.range.loop]))
  | rfl
theorem ok170:FOk Tryz.prog T 170 (eqG [.l 3,.l 147]):=by
 refine fok (env:=envL [(28,(eqS 3)),(188,(eqS 147))]) (N:=17) tabT (ac ok28 (ac ok188 af)) mixed Tryz.func170 rfl Tryz.call170 Tryz.ntmps170 ?_
 rintro args ⟨a,b,wa,wb,rfl⟩ _
 refine ⟨by simp,?_⟩
 rw [Tryz.results170]
 repeat' first
  | refine And.intro ?_ ?_
  | intro h
 all_goals first
  | (show aa _=true;kernel_rfl)|(show am _ _=true;kernel_rfl)|exact True.intro|exact rfl|exact Or.inr rfl|exact Or.inl rfl
  | exact ⟨_,_,rfl⟩
  | exact ⟨_,_,jcM (cj (by rw [wa.1];decide)) (jdG hs),rfl⟩
  | exact ⟨sub a 0 1,sub b 0 1,wa.sub 0 1 (by decide),wb.sub 0 1 (by decide),rfl⟩|exact ⟨sub a 1 1,sub b 1 1,wa.sub 1 1 (by decide),wb.sub 1 1 (by decide),rfl⟩
  | (exact bW (fun he=>by have e:=du wa wb he;subst e;simp_all))
  | (refine ck ?_;simp_all [eqDs,eqD,aS,csD,CV.d,rowC,ofD,argG,sub,List.zipIdx,List.range,List.range.loop];done)
theorem ok145:FOk Tryz.prog T 145 (eqS 126):=by
 refine fok (env:=envL [(170,(eqG [.l 3,.l 147]))]) (N:=27) tabT (ac ok170 af) mixed Tryz.func145 rfl Tryz.call145 Tryz.ntmps145 ?_
 rintro args ⟨a,b,rfl⟩ hwf
 have wa:WfD T (.l 126) (.l a):=arg0 hwf (jb6 _)
 have wb:WfD T (.l 126) (.l b):=arg1 hwf (jb6 _)
 clear hwf
 have la:=wa.len
 refine ⟨by simp,?_⟩
 rw [Tryz.results145]
 repeat' first
  | refine And.intro ?_ ?_
  | intro h
 all_goals first
  | (show aa _=true;kernel_rfl)|(show am _ _=true;kernel_rfl)|exact True.intro|exact rfl|exact Or.inr rfl|exact Or.inl rfl
  | exact bW (ki ‹_›)
  | skip
 have hl:=kw ‹_›
 refine ap (Q:=_) [0,1,5] [] (fun n s=>∃ i:Int,s=([argS 126 a,argS 126 b,.val false [.i .i64 i]],[])∧0≤i∧i≤a.length∧n=a.length - i.toNat∧a.take i.toNat=b.take i.toNat) ?_ ?_
 · exact ⟨rfl,a.length - 0,_,rfl,by omega,by omega,rfl,rfl⟩
 rintro n s ⟨i,rfl,h1,h2,h3,h4⟩
 repeat' first
  | refine And.intro ?_ ?_
  | intro h
 all_goals first
  | (show aa _=true;kernel_rfl)|(show am _ _=true;kernel_rfl)|exact True.intro|exact rfl|exact Or.inr rfl|exact Or.inl rfl
  | omega
  | exact jbO ‹_›
  | exact hl ▸ jbO ‹decide (i < (a.length:Int))=true›
  | exact ⟨_,_,rfl⟩
  | exact ck (b9 hl h1 h2 ‹_› h4)
  | (have hi:i < (a.length:Int):=jbO ‹_›
     have wra:WfRow T [.l 3,.l 147] (a.getD i.toNat []):=wa.row rfl (by omega)
     have wrb:WfRow T [.l 3,.l 147] (b.getD i.toNat []):=wb.row rfl (by omega)
     first
      | exact ⟨_,_,wra,wrb,rfl⟩
      | exact ⟨_,_,wra,wrb,jcM (cP (by omega)) (jdG hs),rfl⟩
      | (refine bW ?_;rintro rfl;simp_all [eqDs,eqD,aS];done)
      | (refine ⟨a.length - (i+1).toNat,by omega,i+1,?_,by omega,by omega,rfl,cr h1 hi hl h4 (du wra wrb ?_)⟩
         · exact congrArg (fun z=>([argS 126 a,argS 126 b,.val false [.i .i64 z]],[])) (aC h1 hi la)
         · simp_all [eqDs,eqD,aS,csD,CV.d,rowC,ofD,argG,sub,List.zipIdx,List.range,List.range.loop]))
  | rfl
theorem xE (n:Nat) (hn:FOk Tryz.prog T 143 (eqSn 53 n)):FOk Tryz.prog T 109 (eqGn cV (n+1)):=by
 refine fok (env:=envL [(143,(eqSn 53 n)),(144,(eqS 9)),(145,(eqS 126))]) (N:=43) tabT (ac hn (ac ok144 (ac ok145 af))) mixed Tryz.func109 rfl Tryz.call109 Tryz.ntmps109 ?_
 rintro args ⟨a,b,wa,wb,hs,rfl⟩ _
 refine ⟨by simp,?_⟩
 rw [Tryz.results109]
 repeat' first
  | refine And.intro ?_ ?_
  | intro h
 all_goals first
  | (show aa _=true;kernel_rfl)|(show am _ _=true;kernel_rfl)|exact True.intro|exact rfl|exact Or.inr rfl|exact Or.inl rfl
  | exact ⟨_,_,rfl⟩
  | exact ⟨_,_,jcM (cj (by rw [wa.1];decide)) (jdG hs),rfl⟩
  | exact ⟨sub a 0 1,sub b 0 1,wa.sub 0 1 (by decide),wb.sub 0 1 (by decide),rfl⟩|exact ⟨sub a 1 1,sub b 1 1,wa.sub 1 1 (by decide),wb.sub 1 1 (by decide),rfl⟩|exact ⟨sub a 2 1,sub b 2 1,wa.sub 2 1 (by decide),wb.sub 2 1 (by decide),rfl⟩|exact ⟨sub a 3 1,sub b 3 1,wa.sub 3 1 (by decide),wb.sub 3 1 (by decide),rfl⟩|exact ⟨sub a 4 1,sub b 4 1,wa.sub 4 1 (by decide),wb.sub 4 1 (by decide),rfl⟩|exact ⟨sub a 5 1,sub b 5 1,wa.sub 5 1 (by decide),wb.sub 5 1 (by decide),rfl⟩|exact ⟨sub a 6 1,sub b 6 1,wa.sub 6 1 (by decide),wb.sub 6 1 (by decide),rfl⟩
  | (exact bW (fun he=>by have e:=du wa wb he;subst e;simp_all))
  | (refine ck ?_;simp_all [eqDs,eqD,aS,csD,CV.d,rowC,ofD,argG,sub,List.zipIdx,List.range,List.range.loop];done)
theorem xD (n:Nat) (hn:FOk Tryz.prog T 109 (eqGn cV n)):FOk Tryz.prog T 143 (eqSn 53 (n+1)):=by
 refine fok (env:=envL [(109,(eqGn cV n))]) (N:=27) tabT (ac hn af) mixed Tryz.func143 rfl Tryz.call143 Tryz.ntmps143 ?_
 rintro args ⟨a,b,hs,rfl⟩ hwf
 have wa:WfD T (.l 53) (.l a):=arg0 hwf (jb6 _)
 have wb:WfD T (.l 53) (.l b):=arg1 hwf (jb6 _)
 clear hwf
 have la:=wa.len
 refine ⟨by simp,?_⟩
 rw [Tryz.results143]
 repeat' first
  | refine And.intro ?_ ?_
  | intro h
 all_goals first
  | (show aa _=true;kernel_rfl)|(show am _ _=true;kernel_rfl)|exact True.intro|exact rfl|exact Or.inr rfl|exact Or.inl rfl
  | exact bW (ki ‹_›)
  | skip
 have hl:=kw ‹_›
 refine ap (Q:=_) [0,1,5] [] (fun n s=>∃ i:Int,s=([argS 53 a,argS 53 b,.val false [.i .i64 i]],[])∧0≤i∧i≤a.length∧n=a.length - i.toNat∧a.take i.toNat=b.take i.toNat) ?_ ?_
 · exact ⟨rfl,a.length - 0,_,rfl,by omega,by omega,rfl,rfl⟩
 rintro n s ⟨i,rfl,h1,h2,h3,h4⟩
 repeat' first
  | refine And.intro ?_ ?_
  | intro h
 all_goals first
  | (show aa _=true;kernel_rfl)|(show am _ _=true;kernel_rfl)|exact True.intro|exact rfl|exact Or.inr rfl|exact Or.inl rfl
  | omega
  | exact jbO ‹_›
  | exact hl ▸ jbO ‹decide (i < (a.length:Int))=true›
  | exact ⟨_,_,rfl⟩
  | exact ck (b9 hl h1 h2 ‹_› h4)
  | (have hi:i < (a.length:Int):=jbO ‹_›
     have wra:WfRow T cV (a.getD i.toNat []):=wa.row rfl (by omega)
     have wrb:WfRow T cV (b.getD i.toNat []):=wb.row rfl (by omega)
     first
      | exact ⟨_,_,wra,wrb,rfl⟩
      | exact ⟨_,_,wra,wrb,jcM (cP (by omega)) (jdG hs),rfl⟩
      | (refine bW ?_;rintro rfl;simp_all [eqDs,eqD,aS];done)
      | (refine ⟨a.length - (i+1).toNat,by omega,i+1,?_,by omega,by omega,rfl,cr h1 hi hl h4 (du wra wrb ?_)⟩
         · exact congrArg (fun z=>([argS 53 a,argS 53 b,.val false [.i .i64 z]],[])) (aC h1 hi la)
         · simp_all [eqDs,eqD,aS,csD,CV.d,rowC,ofD,argG,sub,List.zipIdx,List.range,List.range.loop]))
  | rfl
theorem wZ:FOk Tryz.prog T 109 (eqGn cV 0):=by
 refine fok (env:=envL []) (N:=43) tabT af mixed Tryz.func109 rfl Tryz.call109 Tryz.ntmps109 ?_
 rintro args ⟨a,b,wa,wb,hs,rfl⟩ _
 exact absurd hs (jcE _)
theorem wY:FOk Tryz.prog T 143 (eqSn 53 0):=by
 refine fok (env:=envL []) (N:=27) tabT af mixed Tryz.func143 rfl Tryz.call143 Tryz.ntmps143 ?_
 rintro args ⟨a,b,hs,rfl⟩ _
 exact absurd hs (jcE _)
theorem yQ (n:Nat):FOk Tryz.prog T 109 (eqGn cV n)∧FOk Tryz.prog T 143 (eqSn 53 n):=by
 induction n with
 | zero=>exact ⟨wZ,wY⟩
 | succ n ih=>exact ⟨xE n ih.2,xD n ih.1⟩
theorem ok109:FOk Tryz.prog T 109 (eqG cV):=FOk.lift (s:=fun n=>(eqGn cV n)) (fun n=>(yQ n).1) (fun args ⟨a,b,wa,wb,h⟩=>⟨SizeOf.sizeOf a+1,a,b,wa,wb,jcO _,h⟩) (fun n=>rfl)
theorem ok61:FOk Tryz.prog T 61 (eqG [.i .i64,.i .i64,.i .i64,.s,.s,.i .i64]):=by
 refine fok (env:=envL []) (N:=35) tabT af mixed Tryz.func61 rfl Tryz.call61 Tryz.ntmps61 ?_
 rintro args ⟨a,b,wa,wb,rfl⟩ _
 refine ⟨by simp,?_⟩
 rw [Tryz.results61]
 repeat' first
  | refine And.intro ?_ ?_
  | intro h
 all_goals first
  | (show aa _=true;kernel_rfl)|(show am _ _=true;kernel_rfl)|exact True.intro|exact rfl|exact Or.inr rfl|exact Or.inl rfl
  | exact ⟨_,_,rfl⟩
  | exact ⟨_,_,jcM (cj (by rw [wa.1];decide)) (jdG hs),rfl⟩
  | exact ⟨sub a 0 1,sub b 0 1,wa.sub 0 1 (by decide),wb.sub 0 1 (by decide),rfl⟩|exact ⟨sub a 1 1,sub b 1 1,wa.sub 1 1 (by decide),wb.sub 1 1 (by decide),rfl⟩|exact ⟨sub a 2 1,sub b 2 1,wa.sub 2 1 (by decide),wb.sub 2 1 (by decide),rfl⟩|exact ⟨sub a 3 1,sub b 3 1,wa.sub 3 1 (by decide),wb.sub 3 1 (by decide),rfl⟩|exact ⟨sub a 4 1,sub b 4 1,wa.sub 4 1 (by decide),wb.sub 4 1 (by decide),rfl⟩|exact ⟨sub a 5 1,sub b 5 1,wa.sub 5 1 (by decide),wb.sub 5 1 (by decide),rfl⟩
  | (exact bW (fun he=>by have e:=du wa wb he;subst e;simp_all))
  | (refine ck ?_;simp_all [eqDs,eqD,aS,csD,CV.d,rowC,ofD,argG,sub,List.zipIdx,List.range,List.range.loop];done)
theorem ok29:FOk Tryz.prog T 29 (eqG [.i .i64,.i .i64,.i .i64,.i .i64,.i .i64,.s,.s,.i .i64]):=by
 refine fok (env:=envL [(61,(eqG [.i .i64,.i .i64,.i .i64,.s,.s,.i .i64]))]) (N:=21) tabT (ac ok61 af) mixed Tryz.func29 rfl Tryz.call29 Tryz.ntmps29 ?_
 rintro args ⟨a,b,wa,wb,rfl⟩ _
 refine ⟨by simp,?_⟩
 rw [Tryz.results29]
 repeat' first
  | refine And.intro ?_ ?_
  | intro h
 all_goals first
  | (show aa _=true;kernel_rfl)|(show am _ _=true;kernel_rfl)|exact True.intro|exact rfl|exact Or.inr rfl|exact Or.inl rfl
  | exact ⟨_,_,rfl⟩
  | exact ⟨_,_,jcM (cj (by rw [wa.1];decide)) (jdG hs),rfl⟩
  | exact ⟨sub a 0 1,sub b 0 1,wa.sub 0 1 (by decide),wb.sub 0 1 (by decide),rfl⟩|exact ⟨sub a 1 1,sub b 1 1,wa.sub 1 1 (by decide),wb.sub 1 1 (by decide),rfl⟩|exact ⟨sub a 2 6,sub b 2 6,wa.sub 2 6 (by decide),wb.sub 2 6 (by decide),rfl⟩
  | (exact bW (fun he=>by have e:=du wa wb he;subst e;simp_all))
  | (refine ck ?_;simp_all [eqDs,eqD,aS,csD,CV.d,rowC,ofD,argG,sub,List.zipIdx,List.range,List.range.loop];done)
theorem ok62:FOk Tryz.prog T 62 (eqG [.i .i64,.i .i64,.i .i64,.s,.i .i64,.i .i64,.i .i64,.s,.l 53,.l 9,.l 126]):=by
 refine fok (env:=envL [(109,(eqG cV))]) (N:=31) tabT (ac ok109 af) mixed Tryz.func62 rfl Tryz.call62 Tryz.ntmps62 ?_
 rintro args ⟨a,b,wa,wb,rfl⟩ _
 refine ⟨by simp,?_⟩
 rw [Tryz.results62]
 repeat' first
  | refine And.intro ?_ ?_
  | intro h
 all_goals first
  | (show aa _=true;kernel_rfl)|(show am _ _=true;kernel_rfl)|exact True.intro|exact rfl|exact Or.inr rfl|exact Or.inl rfl
  | exact ⟨_,_,rfl⟩
  | exact ⟨_,_,jcM (cj (by rw [wa.1];decide)) (jdG hs),rfl⟩
  | exact ⟨sub a 0 1,sub b 0 1,wa.sub 0 1 (by decide),wb.sub 0 1 (by decide),rfl⟩|exact ⟨sub a 1 1,sub b 1 1,wa.sub 1 1 (by decide),wb.sub 1 1 (by decide),rfl⟩|exact ⟨sub a 2 1,sub b 2 1,wa.sub 2 1 (by decide),wb.sub 2 1 (by decide),rfl⟩|exact ⟨sub a 3 1,sub b 3 1,wa.sub 3 1 (by decide),wb.sub 3 1 (by decide),rfl⟩|exact ⟨sub a 4 7,sub b 4 7,wa.sub 4 7 (by decide),wb.sub 4 7 (by decide),rfl⟩
  | (exact bW (fun he=>by have e:=du wa wb he;subst e;simp_all))
  | (refine ck ?_;simp_all [eqDs,eqD,aS,csD,CV.d,rowC,ofD,argG,sub,List.zipIdx,List.range,List.range.loop];done)
theorem ok30:FOk Tryz.prog T 30 (eqS 55):=by
 refine fok (env:=envL [(62,(eqG [.i .i64,.i .i64,.i .i64,.s,.i .i64,.i .i64,.i .i64,.s,.l 53,.l 9,.l 126]))]) (N:=27) tabT (ac ok62 af) mixed Tryz.func30 rfl Tryz.call30 Tryz.ntmps30 ?_
 rintro args ⟨a,b,rfl⟩ hwf
 have wa:WfD T (.l 55) (.l a):=arg0 hwf (jb6 _)
 have wb:WfD T (.l 55) (.l b):=arg1 hwf (jb6 _)
 clear hwf
 have la:=wa.len
 refine ⟨by simp,?_⟩
 rw [Tryz.results30]
 repeat' first
  | refine And.intro ?_ ?_
  | intro h
 all_goals first
  | (show aa _=true;kernel_rfl)|(show am _ _=true;kernel_rfl)|exact True.intro|exact rfl|exact Or.inr rfl|exact Or.inl rfl
  | exact bW (ki ‹_›)
  | skip
 have hl:=kw ‹_›
 refine ap (Q:=_) [0,1,5] [] (fun n s=>∃ i:Int,s=([argS 55 a,argS 55 b,.val false [.i .i64 i]],[])∧0≤i∧i≤a.length∧n=a.length - i.toNat∧a.take i.toNat=b.take i.toNat) ?_ ?_
 · exact ⟨rfl,a.length - 0,_,rfl,by omega,by omega,rfl,rfl⟩
 rintro n s ⟨i,rfl,h1,h2,h3,h4⟩
 repeat' first
  | refine And.intro ?_ ?_
  | intro h
 all_goals first
  | (show aa _=true;kernel_rfl)|(show am _ _=true;kernel_rfl)|exact True.intro|exact rfl|exact Or.inr rfl|exact Or.inl rfl
  | omega
  | exact jbO ‹_›
  | exact hl ▸ jbO ‹decide (i < (a.length:Int))=true›
  | exact ⟨_,_,rfl⟩
  | exact ck (b9 hl h1 h2 ‹_› h4)
  | (have hi:i < (a.length:Int):=jbO ‹_›
     have wra:WfRow T [.i .i64,.i .i64,.i .i64,.s,.i .i64,.i .i64,.i .i64,.s,.l 53,.l 9,.l 126] (a.getD i.toNat []):=wa.row rfl (by omega)
     have wrb:WfRow T [.i .i64,.i .i64,.i .i64,.s,.i .i64,.i .i64,.i .i64,.s,.l 53,.l 9,.l 126] (b.getD i.toNat []):=wb.row rfl (by omega)
     first
      | exact ⟨_,_,wra,wrb,rfl⟩
      | exact ⟨_,_,wra,wrb,jcM (cP (by omega)) (jdG hs),rfl⟩
      | (refine bW ?_;rintro rfl;simp_all [eqDs,eqD,aS];done)
      | (refine ⟨a.length - (i+1).toNat,by omega,i+1,?_,by omega,by omega,rfl,cr h1 hi hl h4 (du wra wrb ?_)⟩
         · exact congrArg (fun z=>([argS 55 a,argS 55 b,.val false [.i .i64 z]],[])) (aC h1 hi la)
         · simp_all [eqDs,eqD,aS,csD,CV.d,rowC,ofD,argG,sub,List.zipIdx,List.range,List.range.loop]))
  | rfl
theorem ok8:FOk Tryz.prog T 8 (eqG cO):=by
 refine fok (env:=envL [(28,(eqS 3)),(29,(eqG [.i .i64,.i .i64,.i .i64,.i .i64,.i .i64,.s,.s,.i .i64])),(30,(eqS 55))]) (N:=58) tabT (ac ok28 (ac ok29 (ac ok30 af))) mixed Tryz.func8 rfl Tryz.call8 Tryz.ntmps8 ?_
 rintro args ⟨a,b,wa,wb,rfl⟩ _
 refine ⟨by simp,?_⟩
 rw [Tryz.results8]
 repeat' first
  | refine And.intro ?_ ?_
  | intro h
 all_goals first
  | (show aa _=true;kernel_rfl)|(show am _ _=true;kernel_rfl)|exact True.intro|exact rfl|exact Or.inr rfl|exact Or.inl rfl
  | exact ⟨_,_,rfl⟩
  | exact ⟨_,_,jcM (cj (by rw [wa.1];decide)) (jdG hs),rfl⟩
  | exact ⟨sub a 0 1,sub b 0 1,wa.sub 0 1 (by decide),wb.sub 0 1 (by decide),rfl⟩|exact ⟨sub a 1 1,sub b 1 1,wa.sub 1 1 (by decide),wb.sub 1 1 (by decide),rfl⟩|exact ⟨sub a 2 1,sub b 2 1,wa.sub 2 1 (by decide),wb.sub 2 1 (by decide),rfl⟩|exact ⟨sub a 3 1,sub b 3 1,wa.sub 3 1 (by decide),wb.sub 3 1 (by decide),rfl⟩|exact ⟨sub a 4 8,sub b 4 8,wa.sub 4 8 (by decide),wb.sub 4 8 (by decide),rfl⟩|exact ⟨sub a 12 1,sub b 12 1,wa.sub 12 1 (by decide),wb.sub 12 1 (by decide),rfl⟩|exact ⟨sub a 13 1,sub b 13 1,wa.sub 13 1 (by decide),wb.sub 13 1 (by decide),rfl⟩|exact ⟨sub a 14 1,sub b 14 1,wa.sub 14 1 (by decide),wb.sub 14 1 (by decide),rfl⟩|exact ⟨sub a 15 1,sub b 15 1,wa.sub 15 1 (by decide),wb.sub 15 1 (by decide),rfl⟩|exact ⟨sub a 16 1,sub b 16 1,wa.sub 16 1 (by decide),wb.sub 16 1 (by decide),rfl⟩
  | (exact bW (fun he=>by have e:=du wa wb he;subst e;simp_all))
  | (refine ck ?_;simp_all [eqDs,eqD,aS,csD,CV.d,rowC,ofD,argG,sub,List.zipIdx,List.range,List.range.loop];done)
theorem ok15:FOk Tryz.prog T 15 (eqS 29):=by
 refine fok (env:=envL [(8,(eqG cO))]) (N:=27) tabT (ac ok8 af) mixed Tryz.func15 rfl Tryz.call15 Tryz.ntmps15 ?_
 rintro args ⟨a,b,rfl⟩ hwf
 have wa:WfD T (.l 29) (.l a):=arg0 hwf (jb6 _)
 have wb:WfD T (.l 29) (.l b):=arg1 hwf (jb6 _)
 clear hwf
 have la:=wa.len
 refine ⟨by simp,?_⟩
 rw [Tryz.results15]
 repeat' first
  | refine And.intro ?_ ?_
  | intro h
 all_goals first
  | (show aa _=true;kernel_rfl)|(show am _ _=true;kernel_rfl)|exact True.intro|exact rfl|exact Or.inr rfl|exact Or.inl rfl
  | exact bW (ki ‹_›)
  | skip
 have hl:=kw ‹_›
 refine ap (Q:=_) [0,1,5] [] (fun n s=>∃ i:Int,s=([argS 29 a,argS 29 b,.val false [.i .i64 i]],[])∧0≤i∧i≤a.length∧n=a.length - i.toNat∧a.take i.toNat=b.take i.toNat) ?_ ?_
 · exact ⟨rfl,a.length - 0,_,rfl,by omega,by omega,rfl,rfl⟩
 rintro n s ⟨i,rfl,h1,h2,h3,h4⟩
 repeat' first
  | refine And.intro ?_ ?_
  | intro h
 all_goals first
  | (show aa _=true;kernel_rfl)|(show am _ _=true;kernel_rfl)|exact True.intro|exact rfl|exact Or.inr rfl|exact Or.inl rfl
  | omega
  | exact jbO ‹_›
  | exact hl ▸ jbO ‹decide (i < (a.length:Int))=true›
  | exact ⟨_,_,rfl⟩
  | exact ck (b9 hl h1 h2 ‹_› h4)
  | (have hi:i < (a.length:Int):=jbO ‹_›
     have wra:WfRow T cO (a.getD i.toNat []):=wa.row rfl (by omega)
     have wrb:WfRow T cO (b.getD i.toNat []):=wb.row rfl (by omega)
     first
      | exact ⟨_,_,wra,wrb,rfl⟩
      | exact ⟨_,_,wra,wrb,jcM (cP (by omega)) (jdG hs),rfl⟩
      | (refine bW ?_;rintro rfl;simp_all [eqDs,eqD,aS];done)
      | (refine ⟨a.length - (i+1).toNat,by omega,i+1,?_,by omega,by omega,rfl,cr h1 hi hl h4 (du wra wrb ?_)⟩
         · exact congrArg (fun z=>([argS 29 a,argS 29 b,.val false [.i .i64 z]],[])) (aC h1 hi la)
         · simp_all [eqDs,eqD,aS,csD,CV.d,rowC,ofD,argG,sub,List.zipIdx,List.range,List.range.loop]))
  | rfl
end Go.Proofs.YtdjfhmghebommaaGreatDoor.Ab
