/- A part. -/
import Derived.Test.YtdjfhmghebommaaGreatDoorDFe
import Derived.Test.YtdjfhmghebommaaGreatDoorDFh
namespace Go.Proofs.YtdjfhmghebommaaGreatDoor.Ab
open Go.RowKit
set_option linter.all false
set_option maxRecDepth 100000
set_option maxHeartbeats 1000000
theorem ok122:FOk Tryz.prog T 122 vX:=by
 refine fok (env:=envL [(35,spIn)]) (N:=19) tabT (ac ok35 af) mixed Tryz.func122 rfl Tryz.call122 Tryz.ntmps122 ?_
 rintro args ⟨a,rfl⟩ hwf
 have wa:WfD T (.l 3) (.l a):=arg0 hwf (jb6 _)
 have la:=wa.len
 clear hwf
 refine ⟨by simp,?_⟩
 rw [Tryz.results122]
 repeat' first
  | refine And.intro ?_ ?_
  | (intro h;cases h)
  | (intro h;rw [h])
  | intro h
 all_goals first
  | (show aa _=true;kernel_rfl)|(show am _ _=true;kernel_rfl)|exact True.intro|exact rfl|exact Or.inr rfl|exact Or.inl rfl
  | skip
 refine ap (Q:=_) [0,3] [] (fun n q=>∃ i:Int,q=([argS 3 a,.val false [.i .i64 i]],[])∧0≤i∧i≤a.length∧n=a.length - i.toNat∧(a.take i.toNat).all (fun r=>inR (intOf r) 0 60)=true) ?_ ?_
 · exact ⟨rfl,a.length - 0,0,rfl,by omega,by omega,rfl,rfl⟩
 rintro n q ⟨i,rfl,h1,h2,h3,h4⟩
 repeat' first
  | refine And.intro ?_ ?_
  | (intro h;cases h)
  | (intro h;rw [h])
  | intro h
 all_goals first
  | (show aa _=true;kernel_rfl)|(show am _ _=true;kernel_rfl)|exact True.intro|exact rfl|exact Or.inr rfl|exact Or.inl rfl
  | omega
  | exact jbO ‹_›
  | exact ⟨_,_,_,rfl⟩
  | (have hA:=pg h1 h2 ‹_› h4
     refine resB ?_
     simp only [jY,hA,jcA]
     rw [jdB]
     simp
     omega)
  | (have hi:i < (a.length:Int):=jbO ‹decide (i < (a.length:Int))=true›
     first
      | (have hA:=ii (p:=fun r=>inR (intOf r) 0 60) h1 hi (by simpa using ‹(!inR _ 0 60)=true›)
         exact resB (by simp [jY,hA]))
      | exact ⟨a.length - (i+1).toNat,by omega,i+1,congrArg (fun z:Int=>(([argS 3 a,.val false [.i .i64 z]],[]):Snap)) (aC h1 hi la),by omega,by omega,rfl,ij h1 hi h4 (by simpa using ‹(!inR _ 0 60)=false›)⟩)
theorem ok89:FOk Tryz.prog T 89 (spOp T cO):=by
 refine fok (env:=envL [(35,spIn),(122,vX)]) (N:=72) tabT (ac ok35 (ac ok122 af)) mixed Tryz.func89 rfl Tryz.call89 Tryz.ntmps89 ?_
 rintro args ⟨a,wa,rfl⟩ hwf
 refine ⟨by simp,?_⟩
 rw [Tryz.results89]
 clear hwf
 repeat' first
  | refine And.intro ?_ ?_
  | (intro h;cases h)
  | (intro h;rw [h])
  | intro h
 all_goals first
  | (show aa _=true;kernel_rfl)|(show am _ _=true;kernel_rfl)|exact True.intro|exact rfl|exact Or.inr rfl|exact Or.inl rfl
  | exact ⟨_,rfl⟩
  | exact ⟨_,_,_,rfl⟩
  | (refine resB (jdk ?_ (okOp_rowC wa).symm);clear wa;simp_all [okOp,kh,fY,kg,eqDs,eqD,inR];done)
  | (refine resB (jdk ?_ (okOp_rowC wa).symm);clear wa;simp_all [okOp,kh,fY,kg,eqDs,eqD,inR];omega)
  | (refine resB (jdk ?_ (okOp_rowC wa).symm);clear wa;simp_all [okOp,kh,fY,kg,eqDs,eqD,inR];done)
theorem hEmp:ByteArray.empty.toList=(⟨#[]⟩:ByteArray).toList:=rfl
theorem ok56:FOk Tryz.prog T 56 (spOp T cO):=by
 refine fok (env:=envL [(103,spIn)]) (N:=81) tabT (ac ok103 af) mixed Tryz.func56 rfl Tryz.call56 Tryz.ntmps56 ?_
 rintro args ⟨a,wa,rfl⟩ hwf
 have wS:WfD T (.l 3) (.l (a.getD 3 default).rows):=wa.rows (j:=3) rfl
 have la:=wS.len
 refine ⟨by simp,?_⟩
 rw [Tryz.results56]
 clear hwf
 have hok:=okOp_rowC wa
 repeat' first
  | refine And.intro ?_ ?_
  | (intro h;cases h)
  | (intro h;rw [h])
  | intro h
 all_goals first
  | (show aa _=true;kernel_rfl)|(show am _ _=true;kernel_rfl)|exact True.intro|exact rfl|exact Or.inr rfl|exact Or.inl rfl
  | exact ⟨_,rfl⟩
  | exact ⟨_,_,_,rfl⟩
  | (refine resB (jdk ?_ hok.symm);simp_all [okOp,jY];done)
  | (have hh:¬ (a.getD 3 default).rows.length=3:=fun hc=>by
      have hd:((((a.getD 3 default).rows.length:Int) != 3))=true:=‹_›
      rw [hc] at hd
      exact absurd hd (by decide)
     refine resB (jdk ?_ hok.symm)
     have hs:jY (a.getD 3 default).rows=false:=by unfold jY;rw [decide_eq_false hh,jcn]
     unfold okOp
     rw [hs]
     simp)
  | skip
 have hl:((a.getD 3 default).rows.length:Int)=3:=by simpa using ‹((((a.getD 3 default).rows.length:Int) != 3))=false›
 refine ap (Q:=_) [25,26,27,1] [1] (fun n q=>∃ i:Int,q=([argS 3 (a.getD 3 default).rows,.val false [.i .i64 ((a.getD 3 default).rows.length:Int)],.val false [.i .i64 i],.ptr 1 1 0],[(1,(rowC cO a).map fun c=>.val false [c])])∧0≤i∧i≤(a.getD 3 default).rows.length∧n=(a.getD 3 default).rows.length - i.toNat∧((a.getD 3 default).rows.take i.toNat).all (fun r=>inR (intOf r) 0 60)=true) ?_ ?_
 · exact ⟨rfl,(a.getD 3 default).rows.length - 0,0,rfl,by omega,by omega,rfl,rfl⟩
 rintro n q ⟨i,rfl,h1,h2,h3,h4⟩
 repeat' first
  | refine And.intro ?_ ?_
  | (intro h;cases h)
  | (intro h;rw [h])
  | intro h
 all_goals first
  | (show aa _=true;kernel_rfl)|(show am _ _=true;kernel_rfl)|exact True.intro|exact rfl|exact Or.inr rfl|exact Or.inl rfl
  | omega
  | exact jbO ‹_›
  | exact ⟨_,_,_,rfl⟩
  | (have hi:i < ((a.getD 3 default).rows.length:Int):=jbO ‹decide (i < ((a.getD 3 default).rows.length:Int))=true›
     first
      | (have hA:=ii (p:=fun r=>inR (intOf r) 0 60) h1 hi (by simpa using ‹(!inR _ 0 60)=true›)
         refine resB (jdk ?_ hok.symm)
         have hs:jY (a.getD 3 default).rows=false:=by unfold jY;rw [hA,jcs]
         unfold okOp
         rw [hs]
         simp)
      | exact ⟨(a.getD 3 default).rows.length - (i+1).toNat,by omega,i+1,congrArg (fun z:Int=>(([argS 3 (a.getD 3 default).rows,.val false [.i .i64 ((a.getD 3 default).rows.length:Int)],.val false [.i .i64 z],.ptr 1 1 0],[(1,(rowC cO a).map fun c=>.val false [c])]):Snap)) (aC h1 hi la),by omega,by omega,rfl,ij h1 hi h4 (by simpa using ‹(!inR _ 0 60)=false›)⟩)
  | (have hs:jY (a.getD 3 default).rows=true:=by
      have hA:=pg h1 h2 (by assumption) h4
      unfold jY
      rw [hA,decide_eq_true (by omega)]
      rfl
     refine resB (jdk ?_ hok.symm)
     clear hok wa wS h4
     simp only [Nat.reduceAdd] at *
     unfold okOp
     rw [hs]
     first
      | (simp_all [kh,fY,kg,eqDs,eqD,inR,hEmp];done)
      | (simp_all [kh,fY,kg,eqDs,eqD,inR,hEmp];omega))
theorem ok46:FOk Tryz.prog T 46 (rX T cO):=by
 refine fok (env:=envL []) (N:=40) tabT af mixed Tryz.func46 rfl Tryz.call46 Tryz.ntmps46 ?_
 rintro args ⟨a,wa,hs,rfl⟩ hwf
 have h1:=hs.1
 have hl:=bT a
 refine ⟨by simp,?_⟩
 rw [Tryz.results46]
 clear hwf
 have hok:bu (csD (rowC cO a))=bu a:=by rw [au wa]
 repeat' first
  | refine And.intro ?_ ?_
  | (intro h;cases h)
  | (intro h;rw [h])
  | intro h
 all_goals first
  | (show aa _=true;kernel_rfl)|(show am _ _=true;kernel_rfl)|exact True.intro|exact rfl|exact Or.inr rfl|exact Or.inl rfl
  | (show 3+(a.getD 3 default).rows.length≤maxLen;simp only [maxLen];omega)
  | (show (3+(a.getD 3 default).rows.length) * 8≤140737488355328;omega)
  | (rw [jbQ];show 3+(a.getD 3 default).rows.length+6≤maxLen;simp only [maxLen];omega)
  | (rw [jbQ];show (3+(a.getD 3 default).rows.length+6) * 8≤140737488355328;omega)
  | exact congrArg (fun z=>[CV.sl true 3 z]) hok.symm
theorem badRd {r:List D} (wr:WfRow T [.i .i64,.i .i64,.i .i64,.s,.i .i64,.i .i64,.i .i64,.s,.l 53,.l 9,.l 126] r) (hl:(r.getD 9 default).rows.length+(r.getD 10 default).rows.length≤2097152) (h:(!g86 [argG cV (sub r 4 7)])=true):bO r=false:=by
 by_cases hk:(r.getD 4 default).int=1∨(r.getD 4 default).int=6
 · have hv:=xq _ ⟨sub r 4 7,wr.sub 4 7 (by decide),jbV hl (by decide),hk,rfl⟩
   have he:svOk [argG cV (sub r 4 7)]=okVal (sub r 4 7):=congrArg okVal (au (wr.sub 4 7 (by decide)))
   rw [hv,he] at h
   unfold bO
   rw [show okVal (sub r 4 7)=false by simpa using h,jcn]
 · unfold bO
   have h1:((r.getD 4 default).int == 1)=false:=by simp only [beq_eq_false_iff_ne,ne_eq];exact fun h=>hk (.inl h)
   have h6:((r.getD 4 default).int == 6)=false:=by simp only [beq_eq_false_iff_ne,ne_eq];exact fun h=>hk (.inr h)
   rw [h1,h6]
   rfl
theorem tP {r:List D} (wr:WfRow T [.i .i64,.i .i64,.i .i64,.s,.i .i64,.i .i64,.i .i64,.s,.l 53,.l 9,.l 126] r) (hl:(r.getD 9 default).rows.length+(r.getD 10 default).rows.length≤2097152) (h:(!g86 [argG cV (sub r 4 7)])=false) (hk:(r.getD 4 default).int=1∨(r.getD 4 default).int=6):bO r=true:=by
 have hv:=xq _ ⟨sub r 4 7,wr.sub 4 7 (by decide),jbV hl (by decide),hk,rfl⟩
 have he:svOk [argG cV (sub r 4 7)]=okVal (sub r 4 7):=congrArg okVal (au (wr.sub 4 7 (by decide)))
 rw [hv,he] at h
 unfold bO
 rw [show okVal (sub r 4 7)=true by simpa using h,jcy]
 rcases hk with h1|h6
 · rw [h1];rfl
 · rw [h6];rfl
theorem nx {r:List D} (h1:((r.getD 4 default).int != 1)=true) (h6:((r.getD 4 default).int != 6)=true):bO r=false:=by
 unfold bO
 have h1:((r.getD 4 default).int == 1)=false:=by simpa using h1
 have h6:((r.getD 4 default).int == 6)=false:=by simpa using h6
 rw [h1,h6]
 rfl
theorem ok45:FOk Tryz.prog T 45 (v6 T cO):=by
 refine fok (env:=envL [(46,(rX T cO)),(86,sp86),(88,jb),(89,(spOp T cO))]) (N:=66) tabT (ac ok46 (ac ok86 (ac ok88 (ac ok89 af)))) mixed Tryz.func45 rfl Tryz.call45 Tryz.ntmps45 ?_
 rintro args ⟨a,wa,hs,rfl⟩ hwf
 have hs1:=hs.1
 have hs2:=hs.2.1
 have hs4:=hs.2.2.2
 have hl:=bT a
 have wR:WfD T (.l 55) (.l (rds a)):=wa.rows (j:=16) rfl
 have lr:=wR.len
 refine ⟨by simp,?_⟩
 rw [Tryz.results45]
 clear hwf
 have hrow:csD (rowC cO a)=a:=au wa
 have hok:bv (csD (rowC cO a))=bv a:=by rw [au wa]
 repeat' first
  | refine And.intro ?_ ?_
  | (intro h;cases h)
  | (intro h;rw [h])
  | intro h
 all_goals first
  | (show aa _=true;kernel_rfl)|(show am _ _=true;kernel_rfl)|exact True.intro|exact rfl|exact Or.inr rfl|exact Or.inl rfl
  | exact ⟨a,wa,hs,rfl⟩
  | (show (bu (csD (rowC cO a))).length+2≤maxLen;rw [hrow];simp only [maxLen];omega)
  | (show ((bu (csD (rowC cO a))).length+2) * 8≤140737488355328;rw [hrow];omega)
  | skip
 refine ap (Q:=_) [1,3,4] [1] (fun n q=>∃ i:Int,q=([.ptr 1 1 0,.val false [.sl true 3 (aG a i.toNat)],.val false [.i .i64 i]],[(1,(rowC cO a).map fun c=>.val false [c])])∧0≤i∧i≤(rds a).length∧n=(rds a).length - i.toNat∧((rds a).take i.toNat).all bO=true) ?_ ?_
 · refine ⟨rfl,(rds a).length - 0,0,?_,by omega,by omega,rfl,rfl⟩
   have:aG a (0:Int).toNat=bu (csD (rowC cO a))++ints a [14,15]:=by rw [hrow];simp [aG]
   rw [this]
   rfl
 rintro n q ⟨i,rfl,h1,h2,h3,h4⟩
 have hli:=kd (a:=a) (i:=i.toNat) (by omega)
 repeat' first
  | refine And.intro ?_ ?_
  | (intro h;cases h)
  | (intro h;rw [h])
  | intro h
 all_goals first
  | (show aa _=true;kernel_rfl)|(show am _ _=true;kernel_rfl)|exact True.intro|exact rfl|exact Or.inr rfl|exact Or.inl rfl
  | omega
  | exact jbO ‹_›
  | (have hi:i < ((rds a).length:Int):=jbO ‹decide (i < ((rds a).length:Int))=true›
     have wr:WfRow T [.i .i64,.i .i64,.i .i64,.s,.i .i64,.i .i64,.i .i64,.s,.l 53,.l 9,.l 126] ((rds a).getD i.toNat []):=wR.row rfl (by omega)
     have hb:=(hs4 i.toNat (by omega)).2
     first
      | exact ⟨_,wr.sub 4 7 (by decide),rfl⟩
      | (show (aG a i.toNat).length+3≤maxLen;simp only [maxLen];omega)
      | (show ((aG a i.toNat).length+3) * 8≤140737488355328;omega)
      | (refine resB (jdk ?_ hok.symm)
         have hbad:bO ((rds a).getD i.toNat [])=false:=by first|exact badRd wr hb ‹_›|exact nx ‹_› ‹_›
         unfold bv
         rw [ii h1 hi hbad,jcs])
      | (have hgd:bO ((rds a).getD i.toNat [])=true:=by
          refine tP wr hb (by assumption) ?_
          first
           | (left;simpa using ‹(_ != (1:Int))=false›)
           | (right;simpa using ‹(_ != (6:Int))=false›)
         refine ⟨(rds a).length - (i+1).toNat,by omega,i+1,?_,by omega,by omega,rfl,ij h1 hi h4 hgd⟩
         exact ov (fun r z=>([.ptr 1 1 0,.val false [.sl true 3 r],.val false [.i .i64 z]],[(1,(rowC cO a).map fun c=>.val false [c])])) (gM h1 hi) (aC h1 hi lr)))
  | skip
 have he:i.toNat=(rds a).length:=by
  have:¬ i < ((rds a).length:Int):=jbZ (by assumption)
  omega
 rw [he,jcH] at h4
 rw [he] at hli
 rw [he]
 have hln:(aG a (rds a).length).length≤maxLen:=by simp only [maxLen];omega
 refine ap (Q:=_) [1,3,6] [1] (fun n q=>∃ k:Int,q=([.ptr 1 1 0,.val false [.sl true 3 (aG a (rds a).length)],.val false [.i .i64 k]],[(1,(rowC cO a).map fun c=>.val false [c])])∧0≤k∧k≤(aG a (rds a).length).length∧n=(aG a (rds a).length).length - k.toNat∧((aG a (rds a).length).take k.toNat).all bX=true) ?_ ?_
 · exact ⟨rfl,(aG a (rds a).length).length - 0,0,rfl,by omega,by omega,rfl,rfl⟩
 rintro n q ⟨k,rfl,k1,k2,k3,k4⟩
 repeat' first
  | refine And.intro ?_ ?_
  | (intro h;cases h)
  | (intro h;rw [h])
  | intro h
 all_goals first
  | (show aa _=true;kernel_rfl)|(show am _ _=true;kernel_rfl)|exact True.intro|exact rfl|exact Or.inr rfl|exact Or.inl rfl
  | omega
  | exact jbO ‹_›
  | exact ⟨a,wa,rfl⟩
  | exact ⟨_,rfl⟩
  | (have hk:k < ((aG a (rds a).length).length:Int):=jbO ‹decide (k < ((aG a (rds a).length).length:Int))=true›
     first
      | omega
      | (refine resB (jdk ?_ hok.symm)
         have hA:=ii (p:=bX) k1 hk (by simpa [bX] using ‹(!inR _ (-1000000000) 1000000000)=true›)
         unfold bv
         rw [hA,jcs,jcn])
      | exact ⟨(aG a (rds a).length).length - (k+1).toNat,by omega,k+1,congrArg (fun z:Int=>(([.ptr 1 1 0,.val false [.sl true 3 (aG a (rds a).length)],.val false [.i .i64 z]],[(1,(rowC cO a).map fun c=>.val false [c])]):Snap)) (aC k1 hk hln),by omega,by omega,rfl,ij k1 hk k4 (by simpa [bX] using ‹(!inR _ (-1000000000) 1000000000)=false›)⟩)
  | (have hA:=pg k1 k2 (by assumption) k4
     refine resB (jdk ?_ hok.symm)
     unfold bv
     rw [h4,hA,jcA,jcA]
     exact congrArg okOp hrow)
theorem vL {p:List D→Bool} {rows:List (List D)} {i:Int} (h0:0≤i) (hi:i < rows.length):(rows.take (i+1).toNat).all p=((rows.take i.toNat).all p && p (rows.getD i.toNat [])):=by
 have e:(i+1).toNat=i.toNat+1:=by omega
 rw [e,jcN,gG h0 hi,jdQ]
 simp
theorem jac (f:List (List D)→Bool→Int→Snap) {r r' : List (List D)} {x x' : Bool} {a b:Int} (h:r=r') (h1:x=x') (h2:a=b):f r x a=f r' x' b:=by rw [h,h1,h2]
theorem flag1 {b y z:Bool} (h:(b || !y)=true):true=(b || !(y && z)):=by revert h;cases b <;> cases y <;> cases z <;> simp
theorem flag2 {b y z:Bool} (h:(b || !y)=false):(!z)=(b || !(y && z)):=by revert h;cases b <;> cases y <;> cases z <;> simp
theorem ok57:FOk Tryz.prog T 57 (vV 9):=by
 refine fokB (env:=envL [(104,jb),(72,c7)]) (N:=36) tabT (ac ok104 (ac ok72 af)) mixed Tryz.func57 rfl Tryz.call57 Tryz.ntmps57 ?_
 rintro cs args ⟨ws,nums,b,hl,he⟩ hwf
 simp only [jce,SV.tup.injEq,jci,true_and,and_true] at he
 obtain ⟨rfl,rfl⟩:=he
 have wa:WfD T (.l 3) (.l nums):=arg0 hwf (jb6 _)
 have la:=wa.len
 clear hwf
 refine ⟨by simp,?_⟩
 rw [Tryz.results57]
 repeat' first
  | refine And.intro ?_ ?_
  | (intro h;cases h)
  | (intro h;rw [h])
  | intro h
 all_goals first
  | (show aa _=true;kernel_rfl)|(show am _ _=true;kernel_rfl)|exact True.intro|exact rfl|exact Or.inr rfl|exact Or.inl rfl
  | skip
 refine ap (Q:=_) [0,6,7,8] [36] (fun n q=>∃ i:Int,q=([.ptr 36 0 0,argS 3 nums,.val false [.i .i64 (nums.length:Int)],.val false [.i .i64 i]],[(0,[.val false [.sl true 9 (ws++(nums.take (i).toNat).map rowW)],.val false [.b (b || !((nums.take (i).toNat).all bX))]])])∧0≤i∧i≤nums.length∧n=nums.length - i.toNat) ?_ ?_
 · refine ⟨rfl,nums.length - 0,0,?_,by omega,by omega,rfl⟩
   have h1:ws++(nums.take (0:Int).toNat).map rowW=ws:=by simp
   have h2:(b || !((nums.take (0:Int).toNat).all bX))=b:=by simp
   rw [h1,h2]
   rfl
 rintro n q ⟨i,rfl,h1,h2,h3⟩
 repeat' first
  | refine And.intro ?_ ?_
  | (intro h;cases h)
  | (intro h;rw [h])
  | intro h
 all_goals first
  | (show aa _=true;kernel_rfl)|(show am _ _=true;kernel_rfl)|exact True.intro|exact rfl|exact Or.inr rfl|exact Or.inl rfl
  | omega
  | exact jbO ‹_›
  | exact ⟨_,rfl⟩
  | (have hi:i < (nums.length:Int):=jbO ‹decide (i < (nums.length:Int))=true›
     have hln:(ws++(nums.take i.toNat).map rowW).length=ws.length+i.toNat:=by rw [jbQ,jb0,jb7,jc3 (by omega)]
     first
      | (rw [hln];show ws.length+i.toNat+1≤maxLen;simp only [maxLen];omega)
      | (rw [hln];show (ws.length+i.toNat+1) * 16≤140737488355328;omega)
      | (refine ⟨nums.length - (i+1).toNat,by omega,i+1,?_,by omega,by omega,rfl⟩
         exact jac (fun r x z=>([.ptr 36 0 0,argS 3 nums,.val false [.i .i64 (nums.length:Int)],.val false [.i .i64 z]],[(0,[.val false [.sl true 9 r],.val false [.b x]])])) (by rw [mc h1 hi,jcu];rfl) (by rw [vL h1 hi];first|exact flag1 ‹_›|exact flag2 ‹_›) (aC h1 hi la)))
  | (have he:i.toNat=nums.length:=by
      have:¬ i < (nums.length:Int):=jbZ (by assumption)
      omega
     simp only [he,jcH]
     rfl)
theorem ok58:FOk Tryz.prog T 58 (rQ 9):=by
 refine fokB (env:=envL [(94,uS)]) (N:=24) tabT (ac ok94 af) mixed Tryz.func58 rfl Tryz.call58 Tryz.ntmps58 ?_
 rintro cs args ⟨ws,txts,b,hl,hsz,he⟩ hwf
 simp only [jce,SV.tup.injEq,jci,true_and,and_true] at he
 obtain ⟨rfl,rfl⟩:=he
 have wa:WfD T (.l 9) (.l txts):=arg0 hwf (jb6 _)
 have la:=wa.len
 clear hwf
 refine ⟨by simp,?_⟩
 rw [Tryz.results58]
 repeat' first
  | refine And.intro ?_ ?_
  | (intro h;cases h)
  | (intro h;rw [h])
  | intro h
 all_goals first
  | (show aa _=true;kernel_rfl)|(show am _ _=true;kernel_rfl)|exact True.intro|exact rfl|exact Or.inr rfl|exact Or.inl rfl
  | skip
 refine ap (Q:=_) [0,6,7,8] [24] (fun n q=>∃ i:Int,q=([.ptr 24 0 0,argS 9 txts,.val false [.i .i64 (txts.length:Int)],.val false [.i .i64 i]],[(0,[.val false [.sl true 9 (ws++(txts.take (i).toNat).map rowE)],.val false [.b b]])])∧0≤i∧i≤txts.length∧n=txts.length - i.toNat) ?_ ?_
 · refine ⟨rfl,txts.length - 0,0,?_,by omega,by omega,rfl⟩
   have h1:ws++(txts.take (0:Int).toNat).map rowE=ws:=by simp
   rw [h1]
   rfl
 rintro n q ⟨i,rfl,h1,h2,h3⟩
 repeat' first
  | refine And.intro ?_ ?_
  | (intro h;cases h)
  | (intro h;rw [h])
  | intro h
 all_goals first
  | (show aa _=true;kernel_rfl)|(show am _ _=true;kernel_rfl)|exact True.intro|exact rfl|exact Or.inr rfl|exact Or.inl rfl
  | omega
  | exact jbO ‹_›
  | (have hi:i < (txts.length:Int):=jbO ‹decide (i < (txts.length:Int))=true›
     have hln:(ws++(txts.take i.toNat).map rowE).length=ws.length+i.toNat:=by rw [jbQ,jb0,jb7,jc3 (by omega)]
     first
      | exact ⟨_,hsz i.toNat (by omega),rfl⟩
      | (rw [hln];show ws.length+i.toNat+1≤maxLen;simp only [maxLen];omega)
      | (rw [hln];show (ws.length+i.toNat+1) * 16≤140737488355328;omega)
      | (refine ⟨txts.length - (i+1).toNat,by omega,i+1,?_,by omega,by omega,rfl⟩
         exact ov (fun r z=>([.ptr 24 0 0,argS 9 txts,.val false [.i .i64 (txts.length:Int)],.val false [.i .i64 z]],[(0,[.val false [.sl true 9 r],.val false [.b b]])])) (by rw [mc h1 hi,jcu];rfl) (aC h1 hi la)))
  | (have he:i.toNat=txts.length:=by
      have:¬ i < (txts.length:Int):=jbZ (by assumption)
      omega
     simp only [he,jcH]
     rfl)
theorem kc {a:List D} (h:bv a=true):aZ a=bg (strsOf (aM a (rds a).length)) ⟨#[32]⟩:=if_pos h
theorem fu {a:List D} (h:bv a=false):aZ a=⟨#[]⟩:=if_neg (by rw [h];decide)
theorem ok22:FOk Tryz.prog T 22 (rW T cO):=by
 refine fok (env:=envL [(45,(v6 T cO)),(46,(rX T cO)),(47,c7),(48,uS),(44,(lf T cV)),(49,spJoin)]) (N:=93) tabT (ac ok45 (ac ok46 (ac ok47 (ac ok48 (ac ok44 (ac ok49 af)))))) mixed Tryz.func22 rfl Tryz.call22 Tryz.ntmps22 ?_
 rintro args ⟨a,wa,hs,rfl⟩ hwf
 have hs1:=hs.1
 have hs2:=hs.2.1
 have hs3:=hs.2.2.1
 have hs4:=hs.2.2.2
 have hl:=bT a
 have hl1:=aL a
 have hl2:=df a
 have wR:WfD T (.l 55) (.l (rds a)):=wa.rows (j:=16) rfl
 have lr:=wR.len
 refine ⟨by simp,?_⟩
 rw [Tryz.results22]
 clear hwf
 have hrow:csD (rowC cO a)=a:=au wa
 have hok:aZ (csD (rowC cO a))=aZ a:=by rw [au wa]
 repeat' first
  | refine And.intro ?_ ?_
  | (intro h;cases h)
  | (intro h;rw [h])
  | intro h
 all_goals first
  | (show aa _=true;kernel_rfl)|(show am _ _=true;kernel_rfl)|exact True.intro|exact rfl|exact Or.inr rfl|exact Or.inl rfl
  | exact ⟨a,wa,hs,rfl⟩
  | (refine resS (jdk ?_ hok.symm)
     have hg:(!bv (csD (rowC cO a)))=true:=by assumption
     rw [hrow] at hg
     exact (fu (by simpa using hg)).symm)
  | skip
 have hg:bv a=true:=by
  have hg:(!bv (csD (rowC cO a)))=false:=by assumption
  rw [hrow] at hg
  simpa using hg
 have hgr:=hg
 simp only [bv,jb1] at hgr
 refine ap (Q:=_) [1,3,4,5] [1] (fun n q=>∃ i:Int,q=([.ptr 1 1 0,.val false [.sl true 9 ((bu a).take i.toNat |>.map rowW)],.val false [.sl true 3 (bu a)],.val false [.i .i64 i]],[(1,(rowC cO a).map fun c=>.val false [c])])∧0≤i∧i≤(bu a).length∧n=(bu a).length - i.toNat) ?_ ?_
 · refine ⟨rfl,(bu a).length - 0,0,?_,by omega,by omega,rfl⟩
   have hn:bu (csD (rowC cO a))=bu a:=by rw [hrow]
   rw [← hn]
   rfl
 rintro n q ⟨i,rfl,h1,h2,h3⟩
 have hmx:(bu a).length≤maxLen:=by simp only [maxLen];omega
 repeat' first
  | refine And.intro ?_ ?_
  | (intro h;cases h)
  | (intro h;rw [h])
  | intro h
 all_goals first
  | (show aa _=true;kernel_rfl)|(show am _ _=true;kernel_rfl)|exact True.intro|exact rfl|exact Or.inr rfl|exact Or.inl rfl
  | omega
  | exact jbO ‹_›
  | exact ⟨_,rfl⟩
  | (have hi:i < ((bu a).length:Int):=jbO ‹decide (i < ((bu a).length:Int))=true›
     have hln:((bu a).take i.toNat |>.map rowW).length=i.toNat:=by rw [jb0,jb7,jc3 (by omega)]
     first
      | omega
      | (rw [hln];show i.toNat+1≤maxLen;simp only [maxLen];omega)
      | (rw [hln];show (i.toNat+1) * 16≤140737488355328;omega)
      | (refine ⟨(bu a).length - (i+1).toNat,by omega,i+1,?_,by omega,by omega,rfl⟩
         exact ov (fun r z=>([.ptr 1 1 0,.val false [.sl true 9 r],.val false [.sl true 3 (bu a)],.val false [.i .i64 z]],[(1,(rowC cO a).map fun c=>.val false [c])])) (by rw [mc h1 hi];rfl) (aC h1 hi hmx)))
  | exact ⟨_,jbV hs3.1 (by decide),rfl⟩
  | exact ⟨_,jbV hs3.2.1 (by decide),rfl⟩
  | exact ⟨_,jbV hs3.2.2.1 (by decide),rfl⟩
  | exact ⟨_,jbV hs3.2.2.2 (by decide),rfl⟩
  | (have hln:((bu a).take i.toNat |>.map rowW).length=i.toNat:=by rw [jb0,jb7,jc3 (by omega)]
     have h2' : i.toNat≤1048585:=by omega
     clear h1 h2 h3
     first
      | (rw [hln];show i.toNat+4≤maxLen;simp only [maxLen];omega)
      | (rw [hln];show (i.toNat+4) * 16≤140737488355328;omega)
      | (rw [jbQ,hln];show i.toNat+4+3≤maxLen;simp only [maxLen];omega)
      | (rw [jbQ,hln];show (i.toNat+4+3) * 16≤140737488355328;omega))
  | skip
 have he:i.toNat=(bu a).length:=by
  have:¬ i < ((bu a).length:Int):=jbZ (by assumption)
  omega
 rw [he,jcH]
 clear h1 h2 h3 he
 refine ap (Q:=_) [1,3,6] [1] (fun n q=>∃ i:Int,q=([.ptr 1 1 0,.val false [.sl true 9 (aM a i.toNat)],.val false [.i .i64 i]],[(1,(rowC cO a).map fun c=>.val false [c])])∧0≤i∧i≤(rds a).length∧n=(rds a).length - i.toNat) ?_ ?_
 · refine ⟨rfl,(rds a).length - 0,0,?_,by omega,by omega,rfl⟩
   have h0:aM a (0:Int).toNat=dW a:=by simp [aM]
   rw [h0]
   rfl
 rintro n q ⟨i,rfl,h1,h2,h3⟩
 have hli:=bH (a:=a) (i:=i.toNat) (by omega)
 repeat' first
  | refine And.intro ?_ ?_
  | (intro h;cases h)
  | (intro h;rw [h])
  | intro h
 all_goals first
  | (show aa _=true;kernel_rfl)|(show am _ _=true;kernel_rfl)|exact True.intro|exact rfl|exact Or.inr rfl|exact Or.inl rfl
  | omega
  | exact jbO ‹_›
  | exact ⟨_,rfl⟩
  | (have hi:i < ((rds a).length:Int):=jbO ‹decide (i < ((rds a).length:Int))=true›
     have wr:WfRow T [.i .i64,.i .i64,.i .i64,.s,.i .i64,.i .i64,.i .i64,.s,.l 53,.l 9,.l 126] ((rds a).getD i.toNat []):=wR.row rfl (by omega)
     have hb:=hs4 i.toNat (by omega)
     have hgi:bO ((rds a).getD i.toNat [])=true:=jcb.1 hgr.1 _ (jb8 (gG h1 hi))
     first
      | omega
      | exact ⟨_,jbV hb.1 (by decide),rfl⟩
      | exact ⟨_,wr.sub 4 7 (by decide),⟨jbV hb.2 (by decide),cy hgi,dK hgi⟩,rfl⟩
      | (have hf:bI (csD (rowC cV (sub ((rds a).getD i.toNat []) 4 7)))=bI (sub ((rds a).getD i.toNat []) 4 7):=congrArg bI (au (wr.sub 4 7 (by decide)))
         have hz:(bI (csD (rowC cV (sub ((rds a).getD i.toNat []) 4 7)))).size≤70368744177664:=by rw [hf];exact jbV (gc (dK hgi) (cy hgi)) (by decide)
         first
          | exact ⟨_,hz,rfl⟩
          | (rw [hli];show (a.getD 3 default).rows.length+16+5 * i.toNat+5≤maxLen;simp only [maxLen];omega)
          | (rw [hli];show ((a.getD 3 default).rows.length+16+5 * i.toNat+5) * 16≤140737488355328;omega)
          | (refine ⟨(rds a).length - (i+1).toNat,by omega,i+1,?_,by omega,by omega,rfl⟩
             exact ov (fun r z=>([.ptr 1 1 0,.val false [.sl true 9 r],.val false [.i .i64 z]],[(1,(rowC cO a).map fun c=>.val false [c])])) (by rw [← fH h1 hi,bj, ← hf];rfl) (aC h1 hi lr))))
  | (have he:i.toNat=(rds a).length:=by
      have:¬ i < ((rds a).length:Int):=jbZ (by assumption)
      omega
     rw [he] at hli ⊢
     first
      | exact ⟨_,_,by omega,fX hs hg,rfl⟩
      | exact resS (jdk (kc hg).symm hok.symm))
theorem jbI {r:List D} (wr:WfRow T [.i .i64,.i .i64,.i .i64,.s,.i .i64,.i .i64,.i .i64,.s,.l 53,.l 9,.l 126] r) (h:(!svOk [argG cV (sub r 4 7)])=true):bO r=false:=by
 have he:svOk [argG cV (sub r 4 7)]=okVal (sub r 4 7):=congrArg okVal (au (wr.sub 4 7 (by decide)))
 rw [he] at h
 unfold bO
 rw [show okVal (sub r 4 7)=false by simpa using h,jcn]
theorem qZ {r:List D} (wr:WfRow T [.i .i64,.i .i64,.i .i64,.s,.i .i64,.i .i64,.i .i64,.s,.l 53,.l 9,.l 126] r) (h:(!svOk [argG cV (sub r 4 7)])=false) (hk:(r.getD 4 default).int=1∨(r.getD 4 default).int=6):bO r=true:=by
 have he:svOk [argG cV (sub r 4 7)]=okVal (sub r 4 7):=congrArg okVal (au (wr.sub 4 7 (by decide)))
 rw [he] at h
 unfold bO
 rw [show okVal (sub r 4 7)=true by simpa using h,jcy]
 rcases hk with h1|h6
 · rw [h1];rfl
 · rw [h6];rfl
theorem ok27:FOk Tryz.prog T 27 (rW T cO):=by
 have hE:eu Tryz.prog T (envL [(56,(spOp T cO)),(57,(vV 9)),(58,(rQ 9)),(59,sp59),(55,(lf T cV)),(60,spJoin)]):=(ac ok56 (ac ok57 (ac ok58 (ac ok59 (ac ok55 (ac ok60 af))))))
 refine jbi (N:=116) tabT Tryz.func27 rfl Tryz.call27 Tryz.ntmps27 rfl ?_
 rintro args ⟨a,wa,hs,rfl⟩ hwf
 have hs1:=hs.1
 have hs2:=hs.2.1
 have hs3:=hs.2.2.1
 have hs4:=hs.2.2.2
 have hl:=bT a
 have hl1:=aL a
 have hl2:=df a
 have wR:WfD T (.l 55) (.l (rds a)):=wa.rows (j:=16) rfl
 have lr:=wR.len
 refine ⟨by simp,?_⟩
 rw [Tryz.results27]
 clear hwf
 have hrow:csD (rowC cO a)=a:=au wa
 have hok:aZ (csD (rowC cO a))=aZ a:=by rw [au wa]
 have hok2:okOp (csD (rowC cO a))=okOp a:=by rw [au wa]
 refine Snd.cut2 tabT hE mixed [1] [1] (fun q=>q=([.ptr 1 1 0],[(1,(rowC cO a).map fun c=>.val false [c])])∧okOp a=true) ?_ ?_
 · repeat' first
    | refine And.intro ?_ ?_
    | (intro h;cases h)
    | (intro h;rw [h])
    | intro h
   all_goals first
    | (show aa _=true;kernel_rfl)|(show am _ _=true;kernel_rfl)|exact True.intro|exact rfl|exact Or.inr rfl|exact Or.inl rfl
    | exact ⟨a,wa,rfl⟩
    | (refine resS (jdk ?_ hok.symm)
       have hg:(!okOp (csD (rowC cO a)))=true:=by assumption
       rw [hok2] at hg
       have hg:bv a=false:=by unfold bv;rw [show okOp a=false by simpa using hg,jcn,jcn]
       exact (fu hg).symm)
    | rfl
    | (have hg:(!okOp (csD (rowC cO a)))=false:=by assumption
       rw [hok2] at hg
       simpa using hg)
 rintro q ⟨rfl,hop⟩
 refine Snd.cut2 tabT hE mixed [1,3] [1,11] (fun q=>q=([.ptr 1 1 0,.ptr 11 1 0],[(1,(rowC cO a).map fun c=>.val false [c]),(1,[.val false [.sl true 9 ((ints a [0,1,2]).map rowW)],.val false [.b (!(ints a [0,1,2]).all bX)]])])) ?_ ?_
 · repeat' first
    | refine And.intro ?_ ?_
    | (intro h;cases h)
    | (intro h;rw [h])
    | intro h
   all_goals first
    | (show aa _=true;kernel_rfl)|(show am _ _=true;kernel_rfl)|exact True.intro|exact rfl|exact Or.inr rfl|exact Or.inl rfl
    | (refine ⟨_,_,_,?_,rfl⟩;first|(simp only [jbQ,jb0,jb3,jcc,ints,aL];omega)|(simp only [jbQ,jb0,jb3,jcc,ints,aL,Nat.reduceAdd];omega)|(show (3+(a.getD 3 default).rows.length) * 16≤140737488355328;omega))
    | rfl
 rintro q rfl
 refine Snd.cut2 tabT hE mixed [1,3,4] [1,11,4] (fun q=>q=([.ptr 1 1 0,.ptr 11 1 0,.ptr 4 1 0],[(1,(rowC cO a).map fun c=>.val false [c]),(1,[.val false [.sl true 9 ((ints a [0,1,2]).map rowW++(a.getD 3 default).rows.map rowW)],.val false [.b (!(ints a [0,1,2]).all bX || !(a.getD 3 default).rows.all bX)]]),(1,(rowC [.i .i64,.i .i64,.i .i64,.s,.s,.i .i64] (sub a 6 6)).map fun c=>.val false [c])])) ?_ ?_
 · repeat' first
    | refine And.intro ?_ ?_
    | (intro h;cases h)
    | (intro h;rw [h])
    | intro h
   all_goals first
    | (show aa _=true;kernel_rfl)|(show am _ _=true;kernel_rfl)|exact True.intro|exact rfl|exact Or.inr rfl|exact Or.inl rfl
    | (refine ⟨_,_,_,?_,rfl⟩;first|(simp only [jbQ,jb0,jb3,jcc,ints,aL];omega)|(simp only [jbQ,jb0,jb3,jcc,ints,aL,Nat.reduceAdd];omega)|(show (3+(a.getD 3 default).rows.length) * 16≤140737488355328;omega))
    | rfl
 rintro q rfl
 refine Snd.cut2 tabT hE mixed [1,3] [1,11] (fun q=>q=([.ptr 1 1 0,.ptr 11 1 0],[(1,(rowC cO a).map fun c=>.val false [c]),(1,[.val false [.sl true 9 ((ints a [0,1,2]).map rowW++(a.getD 3 default).rows.map rowW++(ints a [4,5,6,7,8,11]).map rowW++[encW (a.getD 9 default).str,encW (a.getD 10 default).str,encW (a.getD 12 default).str,encW (a.getD 13 default).str])],.val false [.b (!(ints a [0,1,2]).all bX || !(a.getD 3 default).rows.all bX || !(ints a [4,5,6,7,8,11]).all bX)]])])) ?_ ?_
 · repeat' first
    | refine And.intro ?_ ?_
    | (intro h;cases h)
    | (intro h;rw [h])
    | intro h
   all_goals first
    | (show aa _=true;kernel_rfl)|(show am _ _=true;kernel_rfl)|exact True.intro|exact rfl|exact Or.inr rfl|exact Or.inl rfl
    | (refine ⟨_,_,_,?_,rfl⟩;first|(simp only [jbQ,jb0,jb3,jcc,ints,aL];omega)|(simp only [jbQ,jb0,jb3,jcc,ints,aL,Nat.reduceAdd];omega)|(show (3+(a.getD 3 default).rows.length) * 16≤140737488355328;omega))
    | (refine ⟨_,_,_,?_,txt4 (jbV hs3.1 (by decide)) (jbV hs3.2.1 (by decide)) (jbV hs3.2.2.1 (by decide)) (jbV hs3.2.2.2 (by decide)),rfl⟩;simp only [jbQ,jb0,jb3,jcc,ints];omega)
    | rfl
 rintro q rfl
 rw [← oH,jw,jw]
 refine Snd.cut2 tabT hE mixed [3] [11] (fun q=>q=([.ptr 11 1 0],[(1,[.val false [.sl true 9 (aM a (rds a).length)],.val false [.b (iD a (rds a).length)]])])∧(rds a).all bO=true) ?_ ?_
 · repeat' first
    | refine And.intro ?_ ?_
    | (intro h;cases h)
    | (intro h;rw [h])
    | intro h
   all_goals first
    | (show aa _=true;kernel_rfl)|(show am _ _=true;kernel_rfl)|exact True.intro|exact rfl|exact Or.inr rfl|exact Or.inl rfl
    | (refine ⟨_,_,_,?_,rfl⟩;first|(simp only [jbQ,jb0,jb3,jcc,ints,aL];omega)|(simp only [jbQ,jb0,jb3,jcc,ints,aL,Nat.reduceAdd];omega)|(show (3+(a.getD 3 default).rows.length) * 16≤140737488355328;omega))
    | skip
   refine ap (Q:=_) [3,67,68,69] [11] (fun n q=>∃ i:Int,q=([.ptr 11 1 0,argS 55 (rds a),.val false [.i .i64 ((rds a).length:Int)],.val false [.i .i64 i]],[(1,[.val false [.sl true 9 (aM a (i).toNat)],.val false [.b (iD a (i).toNat)]])])∧0≤i∧i≤(rds a).length∧n=(rds a).length - i.toNat∧((rds a).take i.toNat).all bO=true) ?_ ?_
   · refine ⟨rfl,(rds a).length - 0,0,?_,by omega,by omega,rfl,rfl⟩
     have h0:aM a (0:Int).toNat=dW a:=by simp [aM]
     have h0' : iD a (0:Int).toNat=iD a 0:=rfl
     rw [h0,h0', ← qU hs2]
     rfl
   rintro n q ⟨i,rfl,h1,h2,h3,h4⟩
   have hli:=bH (a:=a) (i:=i.toNat) (by omega)
   repeat' first
    | refine And.intro ?_ ?_
    | (intro h;cases h)
    | (intro h;rw [h])
    | intro h
   all_goals first
    | (show aa _=true;kernel_rfl)|(show am _ _=true;kernel_rfl)|exact True.intro|exact rfl|exact Or.inr rfl|exact Or.inl rfl
    | omega
    | exact jbO ‹_›
    | (have hi:i < ((rds a).length:Int):=jbO ‹decide (i < ((rds a).length:Int))=true›
       have wr:WfRow T [.i .i64,.i .i64,.i .i64,.s,.i .i64,.i .i64,.i .i64,.s,.l 53,.l 9,.l 126] ((rds a).getD i.toNat []):=wR.row rfl (by omega)
       have hb:=hs4 i.toNat (by omega)
       first
        | omega
        | (refine ⟨sub ((rds a).getD i.toNat []) 4 7,wr.sub 4 7 (by decide),jbV hb.2 (by decide),?_,rfl⟩
           first
            | (left;simpa using ‹(_ != (1:Int))=false›)
            | (right;simpa using ‹(_ != (6:Int))=false›))
        | (refine resS (jdk ?_ hok.symm)
           have hbad:bO ((rds a).getD i.toNat [])=false:=by first|exact nx ‹_› ‹_›|exact jbI wr ‹_›
           have hg:bv a=false:=by unfold bv;rw [ii h1 hi hbad,jcs]
           exact (fu hg).symm)
        | (refine ⟨_,_,_,?_,rfl⟩
           rw [hli]
           show ((a.getD 3 default).rows.length+16+5 * i.toNat+3) * 16≤140737488355328
           omega)
        | (have hgi:bO ((rds a).getD i.toNat [])=true:=by
            refine qZ wr (by assumption) ?_
            first
             | (left;simpa using ‹(_ != (1:Int))=false›)
             | (right;simpa using ‹(_ != (6:Int))=false›)
           have hf:bI (csD (rowC cV (sub ((rds a).getD i.toNat []) 4 7)))=bI (sub ((rds a).getD i.toNat []) 4 7):=congrArg bI (au (wr.sub 4 7 (by decide)))
           have hz:(bI (csD (rowC cV (sub ((rds a).getD i.toNat []) 4 7)))).size≤70368744177664:=by rw [hf];exact jbV (gc (dK hgi) (cy hgi)) (by decide)
           first
            | exact ⟨_,wr.sub 4 7 (by decide),⟨jbV hb.2 (by decide),cy hgi,dK hgi⟩,rfl⟩
            | (refine ⟨_,_,_,?_,txt2 (jbV hb.1 (by decide)) hz,rfl⟩
               rw [jbQ,jb0,hli]
               show ((a.getD 3 default).rows.length+16+5 * i.toNat+3+2) * 16≤140737488355328
               omega)
            | (refine ⟨(rds a).length - (i+1).toNat,by omega,i+1,?_,by omega,by omega,rfl,ij h1 hi h4 hgi⟩
               exact jac (fun r x z=>([.ptr 11 1 0,argS 55 (rds a),.val false [.i .i64 ((rds a).length:Int)],.val false [.i .i64 z]],[(1,[.val false [.sl true 9 (r)],.val false [.b (x)]])])) (by rw [← fH h1 hi,bj, ← hf,jcu];rfl) (by rw [← qV h1 hi];rfl) (aC h1 hi lr))))
    | (have he:i.toNat=(rds a).length:=by
        have:¬ i < ((rds a).length:Int):=jbZ (by assumption)
        omega
       first
        | (rw [he,jcH] at h4;exact h4)
        | (rw [he];rfl))
 rintro q ⟨rfl,hall⟩
 refine Snd.of_awp tabT hE mixed ?_
 repeat' first
  | refine And.intro ?_ ?_
  | (intro h;cases h)
  | (intro h;rw [h])
  | intro h
 all_goals first
  | (show aa _=true;kernel_rfl)|(show am _ _=true;kernel_rfl)|exact True.intro|exact rfl|exact Or.inr rfl|exact Or.inl rfl
  | (have hf:iD a (rds a).length=true:=by assumption
     have hg:bv a=false:=by
      unfold bv
      rw [show (aG a (rds a).length).all bX=false by simpa [iD] using hf,jcs,jcn]
     exact resS (jdk (fu hg).symm hok.symm))
  | (have hf:iD a (rds a).length=false:=by assumption
     have hg:bv a=true:=by
      unfold bv
      rw [hall,show (aG a (rds a).length).all bX=true by simpa [iD] using hf,hop]
      rfl
     have hln:=bH (a:=a) (jb4 (rds a).length)
     first
      | exact ⟨_,_,by omega,fX hs hg,rfl⟩
      | exact resS (jdk (kc hg).symm hok.symm))
end Go.Proofs.YtdjfhmghebommaaGreatDoor.Ab
