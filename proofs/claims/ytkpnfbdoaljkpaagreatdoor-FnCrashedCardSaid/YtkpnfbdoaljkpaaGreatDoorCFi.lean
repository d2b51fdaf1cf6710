/- Operations checked: printed by a program of this -/
import Derived.Test.YtkpnfbdoaljkpaaGreatDoorCFe
import Derived.Test.YtkpnfbdoaljkpaaGreatDoorCFh
namespace Go.Proofs.YtkpnfbdoaljkpaaGreatDoor.Ab
open Go.RowKit
set_option linter.all false
set_option maxRecDepth 100000
set_option maxHeartbeats 1000000
theorem ok194:FOk Tryz.prog T 194 uQ:=by
 refine fok (env:=envL [(49,spIn)]) (N:=19) tabT (aa ok49 ae) mixed Tryz.func194 rfl Tryz.call194 Tryz.ntmps194 ?_
 rintro args ⟨a,rfl⟩ hwf
 have wa:WfD T (.l 3) (.l a):=arg0 hwf (jbb _)
 have la:=wa.len
 clear hwf
 refine ⟨by simp,?_⟩
 rw [Tryz.results194]
 repeat' first
  | (refine And.intro ?_ ?_)
  | (intro h;cases h)
  | (intro h;rw [h])
  | (intro h)
 all_goals first
  | (show ac _=true;kernel_rfl)|(show aj _ _=true;kernel_rfl)|exact True.intro|exact rfl|exact Or.inr rfl|exact Or.inl rfl
  | skip
 refine ar (Q:=_) [0,3] [] (fun n q=>∃ i:Int,q=([argS 3 a,.val false [.i .i64 i]],[])∧0≤i∧i≤a.length∧n=a.length - i.toNat∧(a.take i.toNat).all (fun r=>inR (intOf r) 0 60)=true) ?_ ?_
 · exact ⟨rfl,a.length - 0,0,rfl,by omega,by omega,rfl,rfl⟩
 rintro n q ⟨i,rfl,h1,h2,h3,h4⟩
 repeat' first
  | (refine And.intro ?_ ?_)
  | (intro h;cases h)
  | (intro h;rw [h])
  | (intro h)
 all_goals first
  | (show ac _=true;kernel_rfl)|(show aj _ _=true;kernel_rfl)|exact True.intro|exact rfl|exact Or.inr rfl|exact Or.inl rfl
  | omega
  | exact jaT ‹_›
  | exact ⟨_,_,_,rfl⟩
  | (have hA:=oi h1 h2 ‹_› h4
     refine resB ?_
     simp only [jh,hA,jbF]
     rw [jcG]
     simp
     omega)
  | (have hi:i < (a.length:Int):=jaT ‹decide (i < (a.length:Int))=true›
     first
      | (have hA:=gD (p:=fun r=>inR (intOf r) 0 60) h1 hi (by simpa using ‹(!inR _ 0 60)=true›)
         exact resB (by simp [jh,hA]))
      | exact ⟨a.length - (i+1).toNat,by omega,i+1,congrArg (fun z:Int=>(([argS 3 a,.val false [.i .i64 z]],[]):Snap)) (aA h1 hi la),by omega,by omega,rfl,gF h1 hi h4 (by simpa using ‹(!inR _ 0 60)=false›)⟩)
theorem ok167:FOk Tryz.prog T 167 (spOp T cO):=by
 refine fok (env:=envL [(49,spIn),(194,uQ)]) (N:=72) tabT (aa ok49 (aa ok194 ae)) mixed Tryz.func167 rfl Tryz.call167 Tryz.ntmps167 ?_
 rintro args ⟨a,wa,rfl⟩ hwf
 refine ⟨by simp,?_⟩
 rw [Tryz.results167]
 clear hwf
 repeat' first
  | (refine And.intro ?_ ?_)
  | (intro h;cases h)
  | (intro h;rw [h])
  | (intro h)
 all_goals first
  | (show ac _=true;kernel_rfl)|(show aj _ _=true;kernel_rfl)|exact True.intro|exact rfl|exact Or.inr rfl|exact Or.inl rfl
  | exact ⟨_,rfl⟩
  | exact ⟨_,_,_,rfl⟩
  | (refine resB (jcp ?_ (okOp_rowC wa).symm);clear wa;simp_all [okOp,jx,fI,jw,eqDs,eqD,inR];done)
  | (refine resB (jcp ?_ (okOp_rowC wa).symm);clear wa;simp_all [okOp,jx,fI,jw,eqDs,eqD,inR];omega)
  | (refine resB (jcp ?_ (okOp_rowC wa).symm);clear wa;simp_all [okOp,jx,fI,jw,eqDs,eqD,inR];done)
theorem hEmp:ByteArray.empty.toList=(⟨#[]⟩:ByteArray).toList:=rfl
theorem ok129:FOk Tryz.prog T 129 (spOp T cO):=by
 refine fok (env:=envL [(50,spIn)]) (N:=81) tabT (aa ok50 ae) mixed Tryz.func129 rfl Tryz.call129 Tryz.ntmps129 ?_
 rintro args ⟨a,wa,rfl⟩ hwf
 have wS:WfD T (.l 3) (.l (a.getD 3 default).rows):=wa.rows (j:=3) rfl
 have la:=wS.len
 refine ⟨by simp,?_⟩
 rw [Tryz.results129]
 clear hwf
 have hok:=okOp_rowC wa
 repeat' first
  | (refine And.intro ?_ ?_)
  | (intro h;cases h)
  | (intro h;rw [h])
  | (intro h)
 all_goals first
  | (show ac _=true;kernel_rfl)|(show aj _ _=true;kernel_rfl)|exact True.intro|exact rfl|exact Or.inr rfl|exact Or.inl rfl
  | exact ⟨_,rfl⟩
  | exact ⟨_,_,_,rfl⟩
  | (refine resB (jcp ?_ hok.symm);simp_all [okOp,jh];done)
  | (have hh:¬ (a.getD 3 default).rows.length=3:=fun hc=>by
      have hd:((((a.getD 3 default).rows.length:Int) != 3))=true:=‹_›
      rw [hc] at hd
      exact absurd hd (by decide)
     refine resB (jcp ?_ hok.symm)
     have hs:jh (a.getD 3 default).rows=false:=by unfold jh;rw [decide_eq_false hh,jbs]
     unfold okOp
     rw [hs]
     simp)
  | skip
 have hl:((a.getD 3 default).rows.length:Int)=3:=by simpa using ‹((((a.getD 3 default).rows.length:Int) != 3))=false›
 refine ar (Q:=_) [25,26,27,1] [1] (fun n q=>∃ i:Int,q=([argS 3 (a.getD 3 default).rows,.val false [.i .i64 ((a.getD 3 default).rows.length:Int)],.val false [.i .i64 i],.ptr 1 1 0],[(1,(rowC cO a).map fun c=>.val false [c])])∧0≤i∧i≤(a.getD 3 default).rows.length∧n=(a.getD 3 default).rows.length - i.toNat∧((a.getD 3 default).rows.take i.toNat).all (fun r=>inR (intOf r) 0 60)=true) ?_ ?_
 · exact ⟨rfl,(a.getD 3 default).rows.length - 0,0,rfl,by omega,by omega,rfl,rfl⟩
 rintro n q ⟨i,rfl,h1,h2,h3,h4⟩
 repeat' first
  | (refine And.intro ?_ ?_)
  | (intro h;cases h)
  | (intro h;rw [h])
  | (intro h)
 all_goals first
  | (show ac _=true;kernel_rfl)|(show aj _ _=true;kernel_rfl)|exact True.intro|exact rfl|exact Or.inr rfl|exact Or.inl rfl
  | omega
  | exact jaT ‹_›
  | exact ⟨_,_,_,rfl⟩
  | (have hi:i < ((a.getD 3 default).rows.length:Int):=jaT ‹decide (i < ((a.getD 3 default).rows.length:Int))=true›
     first
      | (have hA:=gD (p:=fun r=>inR (intOf r) 0 60) h1 hi (by simpa using ‹(!inR _ 0 60)=true›)
         refine resB (jcp ?_ hok.symm)
         have hs:jh (a.getD 3 default).rows=false:=by unfold jh;rw [hA,jbx]
         unfold okOp
         rw [hs]
         simp)
      | exact ⟨(a.getD 3 default).rows.length - (i+1).toNat,by omega,i+1,congrArg (fun z:Int=>(([argS 3 (a.getD 3 default).rows,.val false [.i .i64 ((a.getD 3 default).rows.length:Int)],.val false [.i .i64 z],.ptr 1 1 0],[(1,(rowC cO a).map fun c=>.val false [c])]):Snap)) (aA h1 hi la),by omega,by omega,rfl,gF h1 hi h4 (by simpa using ‹(!inR _ 0 60)=false›)⟩)
  | (have hs:jh (a.getD 3 default).rows=true:=by
      have hA:=oi h1 h2 (by assumption) h4
      unfold jh
      rw [hA,decide_eq_true (by omega)]
      rfl
     refine resB (jcp ?_ hok.symm)
     clear hok wa wS h4
     simp only [Nat.reduceAdd] at *
     unfold okOp
     rw [hs]
     first
      | (simp_all [jx,fI,jw,eqDs,eqD,inR,hEmp];done)
      | (simp_all [jx,fI,jw,eqDs,eqD,inR,hEmp];omega))
theorem ok122:FOk Tryz.prog T 122 (qM T cO):=by
 refine fok (env:=envL []) (N:=40) tabT ae mixed Tryz.func122 rfl Tryz.call122 Tryz.ntmps122 ?_
 rintro args ⟨a,wa,hs,rfl⟩ hwf
 have h1:=hs.1
 have hl:=bS a
 refine ⟨by simp,?_⟩
 rw [Tryz.results122]
 clear hwf
 have hok:bv (csD (rowC cO a))=bv a:=by rw [aC wa]
 repeat' first
  | (refine And.intro ?_ ?_)
  | (intro h;cases h)
  | (intro h;rw [h])
  | (intro h)
 all_goals first
  | (show ac _=true;kernel_rfl)|(show aj _ _=true;kernel_rfl)|exact True.intro|exact rfl|exact Or.inr rfl|exact Or.inl rfl
  | (show 3+(a.getD 3 default).rows.length≤maxLen;simp only [maxLen];omega)
  | (show (3+(a.getD 3 default).rows.length) * 8≤140737488355328;omega)
  | (rw [jaV];show 3+(a.getD 3 default).rows.length+6≤maxLen;simp only [maxLen];omega)
  | (rw [jaV];show (3+(a.getD 3 default).rows.length+6) * 8≤140737488355328;omega)
  | exact congrArg (fun z=>[CV.sl true 3 z]) hok.symm
theorem badRd {r:List D} (wr:WfRow T [.i .i64,.i .i64,.i .i64,.s,.i .i64,.i .i64,.i .i64,.s,.l 53,.l 9,.l 131] r) (hl:(r.getD 9 default).rows.length+(r.getD 10 default).rows.length≤2097152) (h:(!g104 [argG cV (sub r 4 7)])=true):bM r=false:=by
 by_cases hk:(r.getD 4 default).int=1∨(r.getD 4 default).int=6
 · have hv:=qq _ ⟨sub r 4 7,wr.sub 4 7 (by decide),ja0 hl (by decide),hk,rfl⟩
   have he:svOk [argG cV (sub r 4 7)]=okVal (sub r 4 7):=congrArg okVal (aC (wr.sub 4 7 (by decide)))
   rw [hv,he] at h
   unfold bM
   rw [show okVal (sub r 4 7)=false by simpa using h,jbs]
 · unfold bM
   have h1:((r.getD 4 default).int == 1)=false:=by simp only [beq_eq_false_iff_ne,ne_eq];exact fun h=>hk (.inl h)
   have h6:((r.getD 4 default).int == 6)=false:=by simp only [beq_eq_false_iff_ne,ne_eq];exact fun h=>hk (.inr h)
   rw [h1,h6]
   rfl
theorem sk {r:List D} (wr:WfRow T [.i .i64,.i .i64,.i .i64,.s,.i .i64,.i .i64,.i .i64,.s,.l 53,.l 9,.l 131] r) (hl:(r.getD 9 default).rows.length+(r.getD 10 default).rows.length≤2097152) (h:(!g104 [argG cV (sub r 4 7)])=false) (hk:(r.getD 4 default).int=1∨(r.getD 4 default).int=6):bM r=true:=by
 have hv:=qq _ ⟨sub r 4 7,wr.sub 4 7 (by decide),ja0 hl (by decide),hk,rfl⟩
 have he:svOk [argG cV (sub r 4 7)]=okVal (sub r 4 7):=congrArg okVal (aC (wr.sub 4 7 (by decide)))
 rw [hv,he] at h
 unfold bM
 rw [show okVal (sub r 4 7)=true by simpa using h,jbD]
 rcases hk with h1|h6
 · rw [h1];rfl
 · rw [h6];rfl
theorem mD {r:List D} (h1:((r.getD 4 default).int != 1)=true) (h6:((r.getD 4 default).int != 6)=true):bM r=false:=by
 unfold bM
 have h1:((r.getD 4 default).int == 1)=false:=by simpa using h1
 have h6:((r.getD 4 default).int == 6)=false:=by simpa using h6
 rw [h1,h6]
 rfl
theorem ok121:FOk Tryz.prog T 121 (uS T cO):=by
 refine fok (env:=envL [(122,(qM T cO)),(104,wF),(147,jW),(167,(spOp T cO))]) (N:=66) tabT (aa ok122 (aa ok104 (aa ok147 (aa ok167 ae)))) mixed Tryz.func121 rfl Tryz.call121 Tryz.ntmps121 ?_
 rintro args ⟨a,wa,hs,rfl⟩ hwf
 have hs1:=hs.1
 have hs2:=hs.2.1
 have hs4:=hs.2.2.2
 have hl:=bS a
 have wR:WfD T (.l 96) (.l (rds a)):=wa.rows (j:=16) rfl
 have lr:=wR.len
 refine ⟨by simp,?_⟩
 rw [Tryz.results121]
 clear hwf
 have hrow:csD (rowC cO a)=a:=aC wa
 have hok:bi (csD (rowC cO a))=bi a:=by rw [aC wa]
 repeat' first
  | (refine And.intro ?_ ?_)
  | (intro h;cases h)
  | (intro h;rw [h])
  | (intro h)
 all_goals first
  | (show ac _=true;kernel_rfl)|(show aj _ _=true;kernel_rfl)|exact True.intro|exact rfl|exact Or.inr rfl|exact Or.inl rfl
  | exact ⟨a,wa,hs,rfl⟩
  | (show (bv (csD (rowC cO a))).length+2≤maxLen;rw [hrow];simp only [maxLen];omega)
  | (show ((bv (csD (rowC cO a))).length+2) * 8≤140737488355328;rw [hrow];omega)
  | skip
 refine ar (Q:=_) [1,3,4] [1] (fun n q=>∃ i:Int,q=([.ptr 1 1 0,.val false [.sl true 3 (aB a i.toNat)],.val false [.i .i64 i]],[(1,(rowC cO a).map fun c=>.val false [c])])∧0≤i∧i≤(rds a).length∧n=(rds a).length - i.toNat∧((rds a).take i.toNat).all bM=true) ?_ ?_
 · refine ⟨rfl,(rds a).length - 0,0,?_,by omega,by omega,rfl,rfl⟩
   have:aB a (0:Int).toNat=bv (csD (rowC cO a))++ints a [14,15]:=by rw [hrow];simp [aB]
   rw [this]
   rfl
 rintro n q ⟨i,rfl,h1,h2,h3,h4⟩
 have hli:=jv (a:=a) (i:=i.toNat) (by omega)
 repeat' first
  | (refine And.intro ?_ ?_)
  | (intro h;cases h)
  | (intro h;rw [h])
  | (intro h)
 all_goals first
  | (show ac _=true;kernel_rfl)|(show aj _ _=true;kernel_rfl)|exact True.intro|exact rfl|exact Or.inr rfl|exact Or.inl rfl
  | omega
  | exact jaT ‹_›
  | (have hi:i < ((rds a).length:Int):=jaT ‹decide (i < ((rds a).length:Int))=true›
     have wr:WfRow T [.i .i64,.i .i64,.i .i64,.s,.i .i64,.i .i64,.i .i64,.s,.l 53,.l 9,.l 131] ((rds a).getD i.toNat []):=wR.row rfl (by omega)
     have hb:=(hs4 i.toNat (by omega)).2
     first
      | exact ⟨_,wr.sub 4 7 (by decide),rfl⟩
      | (show (aB a i.toNat).length+3≤maxLen;simp only [maxLen];omega)
      | (show ((aB a i.toNat).length+3) * 8≤140737488355328;omega)
      | (refine resB (jcp ?_ hok.symm)
         have hbad:bM ((rds a).getD i.toNat [])=false:=by first|exact badRd wr hb ‹_›|exact mD ‹_› ‹_›
         unfold bi
         rw [gD h1 hi hbad,jbx])
      | (have hgd:bM ((rds a).getD i.toNat [])=true:=by
          refine sk wr hb (by assumption) ?_
          first
           | (left;simpa using ‹(_ != (1:Int))=false›)
           | (right;simpa using ‹(_ != (6:Int))=false›)
         refine ⟨(rds a).length - (i+1).toNat,by omega,i+1,?_,by omega,by omega,rfl,gF h1 hi h4 hgd⟩
         exact nt (fun r z=>([.ptr 1 1 0,.val false [.sl true 3 r],.val false [.i .i64 z]],[(1,(rowC cO a).map fun c=>.val false [c])])) (gg h1 hi) (aA h1 hi lr)))
  | skip
 have he:i.toNat=(rds a).length:=by
  have:¬ i < ((rds a).length:Int):=ja4 (by assumption)
  omega
 rw [he,jbM] at h4
 rw [he] at hli
 rw [he]
 have hln:(aB a (rds a).length).length≤maxLen:=by simp only [maxLen];omega
 refine ar (Q:=_) [1,3,6] [1] (fun n q=>∃ k:Int,q=([.ptr 1 1 0,.val false [.sl true 3 (aB a (rds a).length)],.val false [.i .i64 k]],[(1,(rowC cO a).map fun c=>.val false [c])])∧0≤k∧k≤(aB a (rds a).length).length∧n=(aB a (rds a).length).length - k.toNat∧((aB a (rds a).length).take k.toNat).all bX=true) ?_ ?_
 · exact ⟨rfl,(aB a (rds a).length).length - 0,0,rfl,by omega,by omega,rfl,rfl⟩
 rintro n q ⟨k,rfl,k1,k2,k3,k4⟩
 repeat' first
  | (refine And.intro ?_ ?_)
  | (intro h;cases h)
  | (intro h;rw [h])
  | (intro h)
 all_goals first
  | (show ac _=true;kernel_rfl)|(show aj _ _=true;kernel_rfl)|exact True.intro|exact rfl|exact Or.inr rfl|exact Or.inl rfl
  | omega
  | exact jaT ‹_›
  | exact ⟨a,wa,rfl⟩
  | exact ⟨_,rfl⟩
  | (have hk:k < ((aB a (rds a).length).length:Int):=jaT ‹decide (k < ((aB a (rds a).length).length:Int))=true›
     first
      | omega
      | (refine resB (jcp ?_ hok.symm)
         have hA:=gD (p:=bX) k1 hk (by simpa [bX] using ‹(!inR _ (-1000000000) 1000000000)=true›)
         unfold bi
         rw [hA,jbx,jbs])
      | exact ⟨(aB a (rds a).length).length - (k+1).toNat,by omega,k+1,congrArg (fun z:Int=>(([.ptr 1 1 0,.val false [.sl true 3 (aB a (rds a).length)],.val false [.i .i64 z]],[(1,(rowC cO a).map fun c=>.val false [c])]):Snap)) (aA k1 hk hln),by omega,by omega,rfl,gF k1 hk k4 (by simpa [bX] using ‹(!inR _ (-1000000000) 1000000000)=false›)⟩)
  | (have hA:=oi k1 k2 (by assumption) k4
     refine resB (jcp ?_ hok.symm)
     unfold bi
     rw [h4,hA,jbF,jbF]
     exact congrArg okOp hrow)
theorem uA {p:List D→Bool} {rows:List (List D)} {i:Int} (h0:0≤i) (hi:i < rows.length):(rows.take (i+1).toNat).all p=((rows.take i.toNat).all p && p (rows.getD i.toNat [])):=by
 have e:(i+1).toNat=i.toNat+1:=by omega
 rw [e,jbS,fj h0 hi,jcV]
 simp
theorem za (f:List (List D)→Bool→Int→Snap) {r r' : List (List D)} {x x' : Bool} {a b:Int} (h:r=r') (h1:x=x') (h2:a=b):f r x a=f r' x' b:=by rw [h,h1,h2]
theorem flag1 {b y z:Bool} (h:(b || !y)=true):true=(b || !(y && z)):=by revert h;cases b <;> cases y <;> cases z <;> simp
theorem flag2 {b y z:Bool} (h:(b || !y)=false):(!z)=(b || !(y && z)):=by revert h;cases b <;> cases y <;> cases z <;> simp
theorem ok130:FOk Tryz.prog T 130 (uO 9):=by
 refine fokB (env:=envL [(159,jW),(87,cY)]) (N:=36) tabT (aa ok159 (aa ok87 ae)) mixed Tryz.func130 rfl Tryz.call130 Tryz.ntmps130 ?_
 rintro cs args ⟨ws,nums,b,hl,he⟩ hwf
 simp only [jbj,SV.tup.injEq,jbn,true_and,and_true] at he
 obtain ⟨rfl,rfl⟩:=he
 have wa:WfD T (.l 3) (.l nums):=arg0 hwf (jbb _)
 have la:=wa.len
 clear hwf
 refine ⟨by simp,?_⟩
 rw [Tryz.results130]
 repeat' first
  | (refine And.intro ?_ ?_)
  | (intro h;cases h)
  | (intro h;rw [h])
  | (intro h)
 all_goals first
  | (show ac _=true;kernel_rfl)|(show aj _ _=true;kernel_rfl)|exact True.intro|exact rfl|exact Or.inr rfl|exact Or.inl rfl
  | skip
 refine ar (Q:=_) [0,6,7,8] [36] (fun n q=>∃ i:Int,q=([.ptr 36 0 0,argS 3 nums,.val false [.i .i64 (nums.length:Int)],.val false [.i .i64 i]],[(0,[.val false [.sl true 9 (ws++(nums.take (i).toNat).map rowW)],.val false [.b (b || !((nums.take (i).toNat).all bX))]])])∧0≤i∧i≤nums.length∧n=nums.length - i.toNat) ?_ ?_
 · refine ⟨rfl,nums.length - 0,0,?_,by omega,by omega,rfl⟩
   have h1:ws++(nums.take (0:Int).toNat).map rowW=ws:=by simp
   have h2:(b || !((nums.take (0:Int).toNat).all bX))=b:=by simp
   rw [h1,h2]
   rfl
 rintro n q ⟨i,rfl,h1,h2,h3⟩
 repeat' first
  | (refine And.intro ?_ ?_)
  | (intro h;cases h)
  | (intro h;rw [h])
  | (intro h)
 all_goals first
  | (show ac _=true;kernel_rfl)|(show aj _ _=true;kernel_rfl)|exact True.intro|exact rfl|exact Or.inr rfl|exact Or.inl rfl
  | omega
  | exact jaT ‹_›
  | exact ⟨_,rfl⟩
  | (have hi:i < (nums.length:Int):=jaT ‹decide (i < (nums.length:Int))=true›
     have hln:(ws++(nums.take i.toNat).map rowW).length=ws.length+i.toNat:=by rw [jaV,ja5,jbc,jb8 (by omega)]
     first
      | (rw [hln];show ws.length+i.toNat+1≤maxLen;simp only [maxLen];omega)
      | (rw [hln];show (ws.length+i.toNat+1) * 16≤140737488355328;omega)
      | (refine ⟨nums.length - (i+1).toNat,by omega,i+1,?_,by omega,by omega,rfl⟩
         exact za (fun r x z=>([.ptr 36 0 0,argS 3 nums,.val false [.i .i64 (nums.length:Int)],.val false [.i .i64 z]],[(0,[.val false [.sl true 9 r],.val false [.b x]])])) (by rw [lf h1 hi,jbz];rfl) (by rw [uA h1 hi];first|exact flag1 ‹_›|exact flag2 ‹_›) (aA h1 hi la)))
  | (have he:i.toNat=nums.length:=by
      have:¬ i < (nums.length:Int):=ja4 (by assumption)
      omega
     simp only [he,jbM]
     rfl)
theorem ok131:FOk Tryz.prog T 131 (qH 9):=by
 refine fokB (env:=envL [(171,tH)]) (N:=24) tabT (aa ok171 ae) mixed Tryz.func131 rfl Tryz.call131 Tryz.ntmps131 ?_
 rintro cs args ⟨ws,txts,b,hl,hsz,he⟩ hwf
 simp only [jbj,SV.tup.injEq,jbn,true_and,and_true] at he
 obtain ⟨rfl,rfl⟩:=he
 have wa:WfD T (.l 9) (.l txts):=arg0 hwf (jbb _)
 have la:=wa.len
 clear hwf
 refine ⟨by simp,?_⟩
 rw [Tryz.results131]
 repeat' first
  | (refine And.intro ?_ ?_)
  | (intro h;cases h)
  | (intro h;rw [h])
  | (intro h)
 all_goals first
  | (show ac _=true;kernel_rfl)|(show aj _ _=true;kernel_rfl)|exact True.intro|exact rfl|exact Or.inr rfl|exact Or.inl rfl
  | skip
 refine ar (Q:=_) [0,6,7,8] [24] (fun n q=>∃ i:Int,q=([.ptr 24 0 0,argS 9 txts,.val false [.i .i64 (txts.length:Int)],.val false [.i .i64 i]],[(0,[.val false [.sl true 9 (ws++(txts.take (i).toNat).map rowE)],.val false [.b b]])])∧0≤i∧i≤txts.length∧n=txts.length - i.toNat) ?_ ?_
 · refine ⟨rfl,txts.length - 0,0,?_,by omega,by omega,rfl⟩
   have h1:ws++(txts.take (0:Int).toNat).map rowE=ws:=by simp
   rw [h1]
   rfl
 rintro n q ⟨i,rfl,h1,h2,h3⟩
 repeat' first
  | (refine And.intro ?_ ?_)
  | (intro h;cases h)
  | (intro h;rw [h])
  | (intro h)
 all_goals first
  | (show ac _=true;kernel_rfl)|(show aj _ _=true;kernel_rfl)|exact True.intro|exact rfl|exact Or.inr rfl|exact Or.inl rfl
  | omega
  | exact jaT ‹_›
  | (have hi:i < (txts.length:Int):=jaT ‹decide (i < (txts.length:Int))=true›
     have hln:(ws++(txts.take i.toNat).map rowE).length=ws.length+i.toNat:=by rw [jaV,ja5,jbc,jb8 (by omega)]
     first
      | exact ⟨_,hsz i.toNat (by omega),rfl⟩
      | (rw [hln];show ws.length+i.toNat+1≤maxLen;simp only [maxLen];omega)
      | (rw [hln];show (ws.length+i.toNat+1) * 16≤140737488355328;omega)
      | (refine ⟨txts.length - (i+1).toNat,by omega,i+1,?_,by omega,by omega,rfl⟩
         exact nt (fun r z=>([.ptr 24 0 0,argS 9 txts,.val false [.i .i64 (txts.length:Int)],.val false [.i .i64 z]],[(0,[.val false [.sl true 9 r],.val false [.b b]])])) (by rw [lf h1 hi,jbz];rfl) (aA h1 hi la)))
  | (have he:i.toNat=txts.length:=by
      have:¬ i < (txts.length:Int):=ja4 (by assumption)
      omega
     simp only [he,jbM]
     rfl)
theorem ju {a:List D} (h:bi a=true):ba a=bJ (strsOf (aI a (rds a).length)) ⟨#[32]⟩:=if_pos h
theorem eZ {a:List D} (h:bi a=false):ba a=⟨#[]⟩:=if_neg (by rw [h];decide)
theorem ok67:FOk Tryz.prog T 67 (wn T cO):=by
 refine fok (env:=envL [(121,(uS T cO)),(122,(qM T cO)),(89,cY),(123,tH),(52,(kc T cV)),(124,dB)]) (N:=93) tabT (aa ok121 (aa ok122 (aa ok89 (aa ok123 (aa ok52 (aa ok124 ae)))))) mixed Tryz.func67 rfl Tryz.call67 Tryz.ntmps67 ?_
 rintro args ⟨a,wa,hs,rfl⟩ hwf
 have hs1:=hs.1
 have hs2:=hs.2.1
 have hs3:=hs.2.2.1
 have hs4:=hs.2.2.2
 have hl:=bS a
 have hl1:=aO a
 have hl2:=c6 a
 have wR:WfD T (.l 96) (.l (rds a)):=wa.rows (j:=16) rfl
 have lr:=wR.len
 refine ⟨by simp,?_⟩
 rw [Tryz.results67]
 clear hwf
 have hrow:csD (rowC cO a)=a:=aC wa
 have hok:ba (csD (rowC cO a))=ba a:=by rw [aC wa]
 repeat' first
  | (refine And.intro ?_ ?_)
  | (intro h;cases h)
  | (intro h;rw [h])
  | (intro h)
 all_goals first
  | (show ac _=true;kernel_rfl)|(show aj _ _=true;kernel_rfl)|exact True.intro|exact rfl|exact Or.inr rfl|exact Or.inl rfl
  | exact ⟨a,wa,hs,rfl⟩
  | (refine resS (jcp ?_ hok.symm)
     have hg:(!bi (csD (rowC cO a)))=true:=by assumption
     rw [hrow] at hg
     exact (eZ (by simpa using hg)).symm)
  | skip
 have hg:bi a=true:=by
  have hg:(!bi (csD (rowC cO a)))=false:=by assumption
  rw [hrow] at hg
  simpa using hg
 have hgr:=hg
 simp only [bi,ja6] at hgr
 refine ar (Q:=_) [1,3,4,5] [1] (fun n q=>∃ i:Int,q=([.ptr 1 1 0,.val false [.sl true 9 ((bv a).take i.toNat |>.map rowW)],.val false [.sl true 3 (bv a)],.val false [.i .i64 i]],[(1,(rowC cO a).map fun c=>.val false [c])])∧0≤i∧i≤(bv a).length∧n=(bv a).length - i.toNat) ?_ ?_
 · refine ⟨rfl,(bv a).length - 0,0,?_,by omega,by omega,rfl⟩
   have hn:bv (csD (rowC cO a))=bv a:=by rw [hrow]
   rw [← hn]
   rfl
 rintro n q ⟨i,rfl,h1,h2,h3⟩
 have hmx:(bv a).length≤maxLen:=by simp only [maxLen];omega
 repeat' first
  | (refine And.intro ?_ ?_)
  | (intro h;cases h)
  | (intro h;rw [h])
  | (intro h)
 all_goals first
  | (show ac _=true;kernel_rfl)|(show aj _ _=true;kernel_rfl)|exact True.intro|exact rfl|exact Or.inr rfl|exact Or.inl rfl
  | omega
  | exact jaT ‹_›
  | exact ⟨_,rfl⟩
  | (have hi:i < ((bv a).length:Int):=jaT ‹decide (i < ((bv a).length:Int))=true›
     have hln:((bv a).take i.toNat |>.map rowW).length=i.toNat:=by rw [ja5,jbc,jb8 (by omega)]
     first
      | omega
      | (rw [hln];show i.toNat+1≤maxLen;simp only [maxLen];omega)
      | (rw [hln];show (i.toNat+1) * 16≤140737488355328;omega)
      | (refine ⟨(bv a).length - (i+1).toNat,by omega,i+1,?_,by omega,by omega,rfl⟩
         exact nt (fun r z=>([.ptr 1 1 0,.val false [.sl true 9 r],.val false [.sl true 3 (bv a)],.val false [.i .i64 z]],[(1,(rowC cO a).map fun c=>.val false [c])])) (by rw [lf h1 hi];rfl) (aA h1 hi hmx)))
  | exact ⟨_,ja0 hs3.1 (by decide),rfl⟩
  | exact ⟨_,ja0 hs3.2.1 (by decide),rfl⟩
  | exact ⟨_,ja0 hs3.2.2.1 (by decide),rfl⟩
  | exact ⟨_,ja0 hs3.2.2.2 (by decide),rfl⟩
  | (have hln:((bv a).take i.toNat |>.map rowW).length=i.toNat:=by rw [ja5,jbc,jb8 (by omega)]
     have h2' : i.toNat≤1048585:=by omega
     clear h1 h2 h3
     first
      | (rw [hln];show i.toNat+4≤maxLen;simp only [maxLen];omega)
      | (rw [hln];show (i.toNat+4) * 16≤140737488355328;omega)
      | (rw [jaV,hln];show i.toNat+4+3≤maxLen;simp only [maxLen];omega)
      | (rw [jaV,hln];show (i.toNat+4+3) * 16≤140737488355328;omega))
  | skip
 have he:i.toNat=(bv a).length:=by
  have:¬ i < ((bv a).length:Int):=ja4 (by assumption)
  omega
 rw [he,jbM]
 clear h1 h2 h3 he
 refine ar (Q:=_) [1,3,6] [1] (fun n q=>∃ i:Int,q=([.ptr 1 1 0,.val false [.sl true 9 (aI a i.toNat)],.val false [.i .i64 i]],[(1,(rowC cO a).map fun c=>.val false [c])])∧0≤i∧i≤(rds a).length∧n=(rds a).length - i.toNat) ?_ ?_
 · refine ⟨rfl,(rds a).length - 0,0,?_,by omega,by omega,rfl⟩
   have h0:aI a (0:Int).toNat=dk a:=by simp [aI]
   rw [h0]
   rfl
 rintro n q ⟨i,rfl,h1,h2,h3⟩
 have hli:=bm (a:=a) (i:=i.toNat) (by omega)
 repeat' first
  | (refine And.intro ?_ ?_)
  | (intro h;cases h)
  | (intro h;rw [h])
  | (intro h)
 all_goals first
  | (show ac _=true;kernel_rfl)|(show aj _ _=true;kernel_rfl)|exact True.intro|exact rfl|exact Or.inr rfl|exact Or.inl rfl
  | omega
  | exact jaT ‹_›
  | exact ⟨_,rfl⟩
  | (have hi:i < ((rds a).length:Int):=jaT ‹decide (i < ((rds a).length:Int))=true›
     have wr:WfRow T [.i .i64,.i .i64,.i .i64,.s,.i .i64,.i .i64,.i .i64,.s,.l 53,.l 9,.l 131] ((rds a).getD i.toNat []):=wR.row rfl (by omega)
     have hb:=hs4 i.toNat (by omega)
     have hgi:bM ((rds a).getD i.toNat [])=true:=jbg.1 hgr.1 _ (jbd (fj h1 hi))
     first
      | omega
      | exact ⟨_,ja0 hb.1 (by decide),rfl⟩
      | exact ⟨_,wr.sub 4 7 (by decide),⟨ja0 hb.2 (by decide),ci hgi,cP hgi⟩,rfl⟩
      | (have hf:bF (csD (rowC cV (sub ((rds a).getD i.toNat []) 4 7)))=bF (sub ((rds a).getD i.toNat []) 4 7):=congrArg bF (aC (wr.sub 4 7 (by decide)))
         have hz:(bF (csD (rowC cV (sub ((rds a).getD i.toNat []) 4 7)))).size≤70368744177664:=by rw [hf];exact ja0 (dO (cP hgi) (ci hgi)) (by decide)
         first
          | exact ⟨_,hz,rfl⟩
          | (rw [hli];show (a.getD 3 default).rows.length+16+5 * i.toNat+5≤maxLen;simp only [maxLen];omega)
          | (rw [hli];show ((a.getD 3 default).rows.length+16+5 * i.toNat+5) * 16≤140737488355328;omega)
          | (refine ⟨(rds a).length - (i+1).toNat,by omega,i+1,?_,by omega,by omega,rfl⟩
             exact nt (fun r z=>([.ptr 1 1 0,.val false [.sl true 9 r],.val false [.i .i64 z]],[(1,(rowC cO a).map fun c=>.val false [c])])) (by rw [← fk h1 hi,bd, ← hf];rfl) (aA h1 hi lr))))
  | (have he:i.toNat=(rds a).length:=by
      have:¬ i < ((rds a).length:Int):=ja4 (by assumption)
      omega
     rw [he] at hli ⊢
     first
      | exact ⟨_,_,by omega,fH hs hg,rfl⟩
      | exact resS (jcp (ju hg).symm hok.symm))
theorem jaE {r:List D} (wr:WfRow T [.i .i64,.i .i64,.i .i64,.s,.i .i64,.i .i64,.i .i64,.s,.l 53,.l 9,.l 131] r) (h:(!svOk [argG cV (sub r 4 7)])=true):bM r=false:=by
 have he:svOk [argG cV (sub r 4 7)]=okVal (sub r 4 7):=congrArg okVal (aC (wr.sub 4 7 (by decide)))
 rw [he] at h
 unfold bM
 rw [show okVal (sub r 4 7)=false by simpa using h,jbs]
theorem pV {r:List D} (wr:WfRow T [.i .i64,.i .i64,.i .i64,.s,.i .i64,.i .i64,.i .i64,.s,.l 53,.l 9,.l 131] r) (h:(!svOk [argG cV (sub r 4 7)])=false) (hk:(r.getD 4 default).int=1∨(r.getD 4 default).int=6):bM r=true:=by
 have he:svOk [argG cV (sub r 4 7)]=okVal (sub r 4 7):=congrArg okVal (aC (wr.sub 4 7 (by decide)))
 rw [he] at h
 unfold bM
 rw [show okVal (sub r 4 7)=true by simpa using h,jbD]
 rcases hk with h1|h6
 · rw [h1];rfl
 · rw [h6];rfl
theorem ok71:FOk Tryz.prog T 71 (wn T cO):=by
 have hE:fO Tryz.prog T (envL [(129,(spOp T cO)),(130,(uO 9)),(131,(qH 9)),(112,wE),(54,(kc T cV)),(115,dB)]):=(aa ok129 (aa ok130 (aa ok131 (aa ok112 (aa ok54 (aa ok115 ae))))))
 refine jag (N:=116) tabT Tryz.func71 rfl Tryz.call71 Tryz.ntmps71 rfl ?_
 rintro args ⟨a,wa,hs,rfl⟩ hwf
 have hs1:=hs.1
 have hs2:=hs.2.1
 have hs3:=hs.2.2.1
 have hs4:=hs.2.2.2
 have hl:=bS a
 have hl1:=aO a
 have hl2:=c6 a
 have wR:WfD T (.l 96) (.l (rds a)):=wa.rows (j:=16) rfl
 have lr:=wR.len
 refine ⟨by simp,?_⟩
 rw [Tryz.results71]
 clear hwf
 have hrow:csD (rowC cO a)=a:=aC wa
 have hok:ba (csD (rowC cO a))=ba a:=by rw [aC wa]
 have hok2:okOp (csD (rowC cO a))=okOp a:=by rw [aC wa]
 refine Snd.cut2 tabT hE mixed [1] [1] (fun q=>q=([.ptr 1 1 0],[(1,(rowC cO a).map fun c=>.val false [c])])∧okOp a=true) ?_ ?_
 · repeat' first
    | (refine And.intro ?_ ?_)
    | (intro h;cases h)
    | (intro h;rw [h])
    | (intro h)
   all_goals first
    | (show ac _=true;kernel_rfl)|(show aj _ _=true;kernel_rfl)|exact True.intro|exact rfl|exact Or.inr rfl|exact Or.inl rfl
    | exact ⟨a,wa,rfl⟩
    | (refine resS (jcp ?_ hok.symm)
       have hg:(!okOp (csD (rowC cO a)))=true:=by assumption
       rw [hok2] at hg
       have hg:bi a=false:=by unfold bi;rw [show okOp a=false by simpa using hg,jbs,jbs]
       exact (eZ hg).symm)
    | rfl
    | (have hg:(!okOp (csD (rowC cO a)))=false:=by assumption
       rw [hok2] at hg
       simpa using hg)
 rintro q ⟨rfl,hop⟩
 refine Snd.cut2 tabT hE mixed [1,3] [1,11] (fun q=>q=([.ptr 1 1 0,.ptr 11 1 0],[(1,(rowC cO a).map fun c=>.val false [c]),(1,[.val false [.sl true 9 ((ints a [0,1,2]).map rowW)],.val false [.b (!(ints a [0,1,2]).all bX)]])])) ?_ ?_
 · repeat' first
    | (refine And.intro ?_ ?_)
    | (intro h;cases h)
    | (intro h;rw [h])
    | (intro h)
   all_goals first
    | (show ac _=true;kernel_rfl)|(show aj _ _=true;kernel_rfl)|exact True.intro|exact rfl|exact Or.inr rfl|exact Or.inl rfl
    | (refine ⟨_,_,_,?_,rfl⟩;first|(simp only [jaV,ja5,ja8,jbh,ints,aO];omega)|(simp only [jaV,ja5,ja8,jbh,ints,aO,Nat.reduceAdd];omega)|(show (3+(a.getD 3 default).rows.length) * 16≤140737488355328;omega))
    | rfl
 rintro q rfl
 refine Snd.cut2 tabT hE mixed [1,3,4] [1,11,4] (fun q=>q=([.ptr 1 1 0,.ptr 11 1 0,.ptr 4 1 0],[(1,(rowC cO a).map fun c=>.val false [c]),(1,[.val false [.sl true 9 ((ints a [0,1,2]).map rowW++(a.getD 3 default).rows.map rowW)],.val false [.b (!(ints a [0,1,2]).all bX || !(a.getD 3 default).rows.all bX)]]),(1,(rowC [.i .i64,.i .i64,.i .i64,.s,.s,.i .i64] (sub a 6 6)).map fun c=>.val false [c])])) ?_ ?_
 · repeat' first
    | (refine And.intro ?_ ?_)
    | (intro h;cases h)
    | (intro h;rw [h])
    | (intro h)
   all_goals first
    | (show ac _=true;kernel_rfl)|(show aj _ _=true;kernel_rfl)|exact True.intro|exact rfl|exact Or.inr rfl|exact Or.inl rfl
    | (refine ⟨_,_,_,?_,rfl⟩;first|(simp only [jaV,ja5,ja8,jbh,ints,aO];omega)|(simp only [jaV,ja5,ja8,jbh,ints,aO,Nat.reduceAdd];omega)|(show (3+(a.getD 3 default).rows.length) * 16≤140737488355328;omega))
    | rfl
 rintro q rfl
 refine Snd.cut2 tabT hE mixed [1,3] [1,11] (fun q=>q=([.ptr 1 1 0,.ptr 11 1 0],[(1,(rowC cO a).map fun c=>.val false [c]),(1,[.val false [.sl true 9 ((ints a [0,1,2]).map rowW++(a.getD 3 default).rows.map rowW++(ints a [4,5,6,7,8,11]).map rowW++[encW (a.getD 9 default).str,encW (a.getD 10 default).str,encW (a.getD 12 default).str,encW (a.getD 13 default).str])],.val false [.b (!(ints a [0,1,2]).all bX || !(a.getD 3 default).rows.all bX || !(ints a [4,5,6,7,8,11]).all bX)]])])) ?_ ?_
 · repeat' first
    | (refine And.intro ?_ ?_)
    | (intro h;cases h)
    | (intro h;rw [h])
    | (intro h)
   all_goals first
    | (show ac _=true;kernel_rfl)|(show aj _ _=true;kernel_rfl)|exact True.intro|exact rfl|exact Or.inr rfl|exact Or.inl rfl
    | (refine ⟨_,_,_,?_,rfl⟩;first|(simp only [jaV,ja5,ja8,jbh,ints,aO];omega)|(simp only [jaV,ja5,ja8,jbh,ints,aO,Nat.reduceAdd];omega)|(show (3+(a.getD 3 default).rows.length) * 16≤140737488355328;omega))
    | (refine ⟨_,_,_,?_,txt4 (ja0 hs3.1 (by decide)) (ja0 hs3.2.1 (by decide)) (ja0 hs3.2.2.1 (by decide)) (ja0 hs3.2.2.2 (by decide)),rfl⟩;simp only [jaV,ja5,ja8,jbh,ints];omega)
    | rfl
 rintro q rfl
 rw [← nF,iI,iI]
 refine Snd.cut2 tabT hE mixed [3] [11] (fun q=>q=([.ptr 11 1 0],[(1,[.val false [.sl true 9 (aI a (rds a).length)],.val false [.b (gT a (rds a).length)]])])∧(rds a).all bM=true) ?_ ?_
 · repeat' first
    | (refine And.intro ?_ ?_)
    | (intro h;cases h)
    | (intro h;rw [h])
    | (intro h)
   all_goals first
    | (show ac _=true;kernel_rfl)|(show aj _ _=true;kernel_rfl)|exact True.intro|exact rfl|exact Or.inr rfl|exact Or.inl rfl
    | (refine ⟨_,_,_,?_,rfl⟩;first|(simp only [jaV,ja5,ja8,jbh,ints,aO];omega)|(simp only [jaV,ja5,ja8,jbh,ints,aO,Nat.reduceAdd];omega)|(show (3+(a.getD 3 default).rows.length) * 16≤140737488355328;omega))
    | skip
   refine ar (Q:=_) [3,67,68,69] [11] (fun n q=>∃ i:Int,q=([.ptr 11 1 0,argS 96 (rds a),.val false [.i .i64 ((rds a).length:Int)],.val false [.i .i64 i]],[(1,[.val false [.sl true 9 (aI a (i).toNat)],.val false [.b (gT a (i).toNat)]])])∧0≤i∧i≤(rds a).length∧n=(rds a).length - i.toNat∧((rds a).take i.toNat).all bM=true) ?_ ?_
   · refine ⟨rfl,(rds a).length - 0,0,?_,by omega,by omega,rfl,rfl⟩
     have h0:aI a (0:Int).toNat=dk a:=by simp [aI]
     have h0' : gT a (0:Int).toNat=gT a 0:=rfl
     rw [h0,h0', ← pP hs2]
     rfl
   rintro n q ⟨i,rfl,h1,h2,h3,h4⟩
   have hli:=bm (a:=a) (i:=i.toNat) (by omega)
   repeat' first
    | (refine And.intro ?_ ?_)
    | (intro h;cases h)
    | (intro h;rw [h])
    | (intro h)
   all_goals first
    | (show ac _=true;kernel_rfl)|(show aj _ _=true;kernel_rfl)|exact True.intro|exact rfl|exact Or.inr rfl|exact Or.inl rfl
    | omega
    | exact jaT ‹_›
    | (have hi:i < ((rds a).length:Int):=jaT ‹decide (i < ((rds a).length:Int))=true›
       have wr:WfRow T [.i .i64,.i .i64,.i .i64,.s,.i .i64,.i .i64,.i .i64,.s,.l 53,.l 9,.l 131] ((rds a).getD i.toNat []):=wR.row rfl (by omega)
       have hb:=hs4 i.toNat (by omega)
       first
        | omega
        | (refine ⟨sub ((rds a).getD i.toNat []) 4 7,wr.sub 4 7 (by decide),ja0 hb.2 (by decide),?_,rfl⟩
           first
            | (left;simpa using ‹(_ != (1:Int))=false›)
            | (right;simpa using ‹(_ != (6:Int))=false›))
        | (refine resS (jcp ?_ hok.symm)
           have hbad:bM ((rds a).getD i.toNat [])=false:=by first|exact mD ‹_› ‹_›|exact jaE wr ‹_›
           have hg:bi a=false:=by unfold bi;rw [gD h1 hi hbad,jbx]
           exact (eZ hg).symm)
        | (refine ⟨_,_,_,?_,rfl⟩
           rw [hli]
           show ((a.getD 3 default).rows.length+16+5 * i.toNat+3) * 16≤140737488355328
           omega)
        | (have hgi:bM ((rds a).getD i.toNat [])=true:=by
            refine pV wr (by assumption) ?_
            first
             | (left;simpa using ‹(_ != (1:Int))=false›)
             | (right;simpa using ‹(_ != (6:Int))=false›)
           have hf:bF (csD (rowC cV (sub ((rds a).getD i.toNat []) 4 7)))=bF (sub ((rds a).getD i.toNat []) 4 7):=congrArg bF (aC (wr.sub 4 7 (by decide)))
           have hz:(bF (csD (rowC cV (sub ((rds a).getD i.toNat []) 4 7)))).size≤70368744177664:=by rw [hf];exact ja0 (dO (cP hgi) (ci hgi)) (by decide)
           first
            | exact ⟨_,wr.sub 4 7 (by decide),⟨ja0 hb.2 (by decide),ci hgi,cP hgi⟩,rfl⟩
            | (refine ⟨_,_,_,?_,txt2 (ja0 hb.1 (by decide)) hz,rfl⟩
               rw [jaV,ja5,hli]
               show ((a.getD 3 default).rows.length+16+5 * i.toNat+3+2) * 16≤140737488355328
               omega)
            | (refine ⟨(rds a).length - (i+1).toNat,by omega,i+1,?_,by omega,by omega,rfl,gF h1 hi h4 hgi⟩
               exact za (fun r x z=>([.ptr 11 1 0,argS 96 (rds a),.val false [.i .i64 ((rds a).length:Int)],.val false [.i .i64 z]],[(1,[.val false [.sl true 9 (r)],.val false [.b (x)]])])) (by rw [← fk h1 hi,bd, ← hf,jbz];rfl) (by rw [← pQ h1 hi];rfl) (aA h1 hi lr))))
    | (have he:i.toNat=(rds a).length:=by
        have:¬ i < ((rds a).length:Int):=ja4 (by assumption)
        omega
       first
        | (rw [he,jbM] at h4;exact h4)
        | (rw [he];rfl))
 rintro q ⟨rfl,hall⟩
 refine Snd.of_awp tabT hE mixed ?_
 repeat' first
  | (refine And.intro ?_ ?_)
  | (intro h;cases h)
  | (intro h;rw [h])
  | (intro h)
 all_goals first
  | (show ac _=true;kernel_rfl)|(show aj _ _=true;kernel_rfl)|exact True.intro|exact rfl|exact Or.inr rfl|exact Or.inl rfl
  | (have hf:gT a (rds a).length=true:=by assumption
     have hg:bi a=false:=by
      unfold bi
      rw [show (aB a (rds a).length).all bX=false by simpa [gT] using hf,jbx,jbs]
     exact resS (jcp (eZ hg).symm hok.symm))
  | (have hf:gT a (rds a).length=false:=by assumption
     have hg:bi a=true:=by
      unfold bi
      rw [hall,show (aB a (rds a).length).all bX=true by simpa [gT] using hf,hop]
      rfl
     have hln:=bm (a:=a) (ja9 (rds a).length)
     first
      | exact ⟨_,_,by omega,fH hs hg,rfl⟩
      | exact resS (jcp (ju hg).symm hok.symm))
end Go.Proofs.YtkpnfbdoaljkpaaGreatDoor.Ab
