/- A part. -/
import Derived.Test.YtdkofgjbbdbglaaGreatDoorCFe
import Derived.Test.YtdkofgjbbdbglaaGreatDoorCFh
namespace Go.Proofs.YtdkofgjbbdbglaaGreatDoor.Ab
open Go.RowKit
set_option linter.all false
set_option maxRecDepth 100000
set_option maxHeartbeats 1000000
theorem ok120:FOk Tryz.prog T 120 xb:=by
 refine fok (env:=envL [(37,spIn)]) (N:=19) tabT (aa ok37 ae) mixed Tryz.func120 rfl Tryz.call120 Tryz.ntmps120 ?_
 rintro args ⟨a,rfl⟩ hwf
 have wa:WfD T (.l 3) (.l a):=arg0 hwf (jdo _)
 have la:=wa.len
 clear hwf
 refine ⟨by simp,?_⟩
 rw [Tryz.results120]
 repeat' first
  | refine And.intro ?_ ?_
  | (intro h;cases h)
  | (intro h;rw [h])
  | intro h
 all_goals first
  | skip
 refine aj (Q:=_) [0,3] [] (fun n q=>∃ i:Int,q=([argS 3 a,.val false [.i .i64 i]],[])∧0≤i∧i≤a.length∧n=a.length - i.toNat∧(a.take i.toNat).all (fun r=>inR (intOf r) 0 60)=true) ?_ ?_
 · exact ⟨rfl,a.length - 0,0,rfl,by omega,by omega,rfl,rfl⟩
 rintro n q ⟨i,rfl,h1,h2,h3,h4⟩
 repeat' first
  | refine And.intro ?_ ?_
  | (intro h;cases h)
  | (intro h;rw [h])
  | intro h
 all_goals first
  | exact True.intro
  | exact rfl
  | exact Or.inr rfl
  | omega
  | exact jc6 ‹_›
  | exact ⟨_,_,_,rfl⟩
  | (have hA:=pn h1 h2 ‹_› h4
     refine resB ?_
     simp only [gA,hA,jdS]
     rw [jeT]
     simp
     omega)
  | (have hi:i < (a.length:Int):=jc6 ‹decide (i < (a.length:Int))=true›
     first
      | (have hA:=gZ (p:=fun r=>inR (intOf r) 0 60) h1 hi (by simpa using ‹(!inR _ 0 60)=true›)
         exact resB (by simp [gA,hA]))
      | exact ⟨a.length - (i+1).toNat,by omega,i+1,congrArg (fun z:Int=>(([argS 3 a,.val false [.i .i64 z]],[]):Snap)) (aC h1 hi la),by omega,by omega,rfl,g9 h1 hi h4 (by simpa using ‹(!inR _ 0 60)=false›)⟩)
theorem ok93:FOk Tryz.prog T 93 (spOp T cO):=by
 refine fok (env:=envL [(37,spIn),(120,xb)]) (N:=72) tabT (aa ok37 (aa ok120 ae)) mixed Tryz.func93 rfl Tryz.call93 Tryz.ntmps93 ?_
 rintro args ⟨a,wa,rfl⟩ hwf
 refine ⟨by simp,?_⟩
 rw [Tryz.results93]
 clear hwf
 repeat' first
  | refine And.intro ?_ ?_
  | (intro h;cases h)
  | (intro h;rw [h])
  | intro h
 all_goals first
  | exact True.intro
  | exact Or.inr rfl
  | exact ⟨_,rfl⟩
  | exact ⟨_,_,_,rfl⟩
  | (refine resB (jeC ?_ (okOp_rowC wa).symm);clear wa;simp_all [okOp,lh,ix,lg,eqDs,eqD,inR];done)
  | (refine resB (jeC ?_ (okOp_rowC wa).symm);clear wa;simp_all [okOp,lh,ix,lg,eqDs,eqD,inR];omega)
theorem hEmp:ByteArray.empty.toList=(⟨#[]⟩:ByteArray).toList:=rfl
theorem ok51:FOk Tryz.prog T 51 (spOp T cO):=by
 refine fok (env:=envL [(33,spIn)]) (N:=81) tabT (aa ok33 ae) mixed Tryz.func51 rfl Tryz.call51 Tryz.ntmps51 ?_
 rintro args ⟨a,wa,rfl⟩ hwf
 have wS:WfD T (.l 3) (.l (a.getD 3 default).rows):=wa.rows (j:=3) rfl
 have la:=wS.len
 refine ⟨by simp,?_⟩
 rw [Tryz.results51]
 clear hwf
 have hok:=okOp_rowC wa
 repeat' first
  | refine And.intro ?_ ?_
  | (intro h;cases h)
  | (intro h;rw [h])
  | intro h
 all_goals first
  | exact True.intro
  | exact Or.inr rfl
  | exact ⟨_,_,_,rfl⟩
  | (refine resB (jeC ?_ hok.symm);simp_all [okOp,gA];done)
  | (have hh:¬ (a.getD 3 default).rows.length=3:=fun hc=>by
      have hd:((((a.getD 3 default).rows.length:Int) != 3))=true:=‹_›
      rw [hc] at hd
      exact absurd hd (by decide)
     refine resB (jeC ?_ hok.symm)
     have hs:gA (a.getD 3 default).rows=false:=by unfold gA;rw [decide_eq_false hh,jdF]
     unfold okOp
     rw [hs]
     simp)
  | skip
 have hl:((a.getD 3 default).rows.length:Int)=3:=by simpa using ‹((((a.getD 3 default).rows.length:Int) != 3))=false›
 refine aj (Q:=_) [25,26,27,1] [1] (fun n q=>∃ i:Int,q=([argS 3 (a.getD 3 default).rows,.val false [.i .i64 ((a.getD 3 default).rows.length:Int)],.val false [.i .i64 i],.ptr 1 1 0],[(1,(rowC cO a).map fun c=>.val false [c])])∧0≤i∧i≤(a.getD 3 default).rows.length∧n=(a.getD 3 default).rows.length - i.toNat∧((a.getD 3 default).rows.take i.toNat).all (fun r=>inR (intOf r) 0 60)=true) ?_ ?_
 · exact ⟨rfl,(a.getD 3 default).rows.length - 0,0,rfl,by omega,by omega,rfl,rfl⟩
 rintro n q ⟨i,rfl,h1,h2,h3,h4⟩
 repeat' first
  | refine And.intro ?_ ?_
  | (intro h;cases h)
  | (intro h;rw [h])
  | intro h
 all_goals first
  | exact True.intro
  | exact rfl
  | exact Or.inr rfl
  | omega
  | exact jc6 ‹_›
  | exact ⟨_,_,_,rfl⟩
  | (have hi:i < ((a.getD 3 default).rows.length:Int):=jc6 ‹decide (i < ((a.getD 3 default).rows.length:Int))=true›
     first
      | (have hA:=gZ (p:=fun r=>inR (intOf r) 0 60) h1 hi (by simpa using ‹(!inR _ 0 60)=true›)
         refine resB (jeC ?_ hok.symm)
         have hs:gA (a.getD 3 default).rows=false:=by unfold gA;rw [hA,jdK]
         unfold okOp
         rw [hs]
         simp)
      | exact ⟨(a.getD 3 default).rows.length - (i+1).toNat,by omega,i+1,congrArg (fun z:Int=>(([argS 3 (a.getD 3 default).rows,.val false [.i .i64 ((a.getD 3 default).rows.length:Int)],.val false [.i .i64 z],.ptr 1 1 0],[(1,(rowC cO a).map fun c=>.val false [c])]):Snap)) (aC h1 hi la),by omega,by omega,rfl,g9 h1 hi h4 (by simpa using ‹(!inR _ 0 60)=false›)⟩)
  | (have hs:gA (a.getD 3 default).rows=true:=by
      have hA:=pn h1 h2 (by assumption) h4
      unfold gA
      rw [hA,decide_eq_true (by omega)]
      rfl
     refine resB (jeC ?_ hok.symm)
     clear hok wa wS h4
     simp only [Nat.reduceAdd] at *
     unfold okOp
     rw [hs]
     first
      | (simp_all [lh,ix,lg,eqDs,eqD,inR,hEmp];done)
      | (simp_all [lh,ix,lg,eqDs,eqD,inR,hEmp];omega))
theorem ok59:FOk Tryz.prog T 59 (r7 T cO):=by
 refine fok (env:=envL []) (N:=40) tabT ae mixed Tryz.func59 rfl Tryz.call59 Tryz.ntmps59 ?_
 rintro args ⟨a,wa,hs,rfl⟩ hwf
 have h1:=hs.1
 have hl:=bW a
 refine ⟨by simp,?_⟩
 rw [Tryz.results59]
 clear hwf
 have hok:bD (csD (rowC cO a))=bD a:=by rw [aw wa]
 repeat' first
  | refine And.intro ?_ ?_
  | (intro h;cases h)
  | (intro h;rw [h])
  | intro h
 all_goals first
  | exact True.intro
  | exact rfl
  | exact Or.inr rfl
  | (show 3+(a.getD 3 default).rows.length≤maxLen;simp only [maxLen];omega)
  | (show (3+(a.getD 3 default).rows.length) * 8≤140737488355328;omega)
  | (rw [jc8];show 3+(a.getD 3 default).rows.length+6≤maxLen;simp only [maxLen];omega)
  | (rw [jc8];show (3+(a.getD 3 default).rows.length+6) * 8≤140737488355328;omega)
theorem badRd {r:List D} (wr:WfRow T [.i .i64,.i .i64,.i .i64,.s,.i .i64,.i .i64,.i .i64,.s,.l 74,.l 9,.l 124] r) (hl:(r.getD 9 default).rows.length+(r.getD 10 default).rows.length≤2097152) (h:(!g91 [argG cV (sub r 4 7)])=true):bK r=false:=by
 by_cases hk:(r.getD 4 default).int=1∨(r.getD 4 default).int=6
 · have hv:=yu _ ⟨sub r 4 7,wr.sub 4 7 (by decide),jdd hl (by decide),hk,rfl⟩
   have he:svOk [argG cV (sub r 4 7)]=okVal (sub r 4 7):=congrArg okVal (aw (wr.sub 4 7 (by decide)))
   rw [hv,he] at h
   unfold bK
   rw [show okVal (sub r 4 7)=false by simpa using h,jdF]
 · unfold bK
   have h1:((r.getD 4 default).int == 1)=false:=by simp only [beq_eq_false_iff_ne,ne_eq];exact fun h=>hk (.inl h)
   have h6:((r.getD 4 default).int == 6)=false:=by simp only [beq_eq_false_iff_ne,ne_eq];exact fun h=>hk (.inr h)
   rw [h1,h6]
   rfl
theorem ua {r:List D} (wr:WfRow T [.i .i64,.i .i64,.i .i64,.s,.i .i64,.i .i64,.i .i64,.s,.l 74,.l 9,.l 124] r) (hl:(r.getD 9 default).rows.length+(r.getD 10 default).rows.length≤2097152) (h:(!g91 [argG cV (sub r 4 7)])=false) (hk:(r.getD 4 default).int=1∨(r.getD 4 default).int=6):bK r=true:=by
 have hv:=yu _ ⟨sub r 4 7,wr.sub 4 7 (by decide),jdd hl (by decide),hk,rfl⟩
 have he:svOk [argG cV (sub r 4 7)]=okVal (sub r 4 7):=congrArg okVal (aw (wr.sub 4 7 (by decide)))
 rw [hv,he] at h
 unfold bK
 rw [show okVal (sub r 4 7)=true by simpa using h,jdQ]
 rcases hk with h1|h6
 · rw [h1];rfl
 · rw [h6];rfl
theorem nz {r:List D} (h1:((r.getD 4 default).int != 1)=true) (h6:((r.getD 4 default).int != 6)=true):bK r=false:=by
 unfold bK
 have h1:((r.getD 4 default).int == 1)=false:=by simpa using h1
 have h6:((r.getD 4 default).int == 6)=false:=by simpa using h6
 rw [h1,h6]
 rfl
theorem ok58:FOk Tryz.prog T 58 (xf T cO):=by
 refine fok (env:=envL [(59,(r7 T cO)),(91,sp91),(92,jb),(93,(spOp T cO))]) (N:=66) tabT (aa ok59 (aa ok91 (aa ok92 (aa ok93 ae)))) mixed Tryz.func58 rfl Tryz.call58 Tryz.ntmps58 ?_
 rintro args ⟨a,wa,hs,rfl⟩ hwf
 have hs1:=hs.1
 have hs2:=hs.2.1
 have hs4:=hs.2.2.2
 have hl:=bW a
 have wR:WfD T (.l 76) (.l (rds a)):=wa.rows (j:=16) rfl
 have lr:=wR.len
 refine ⟨by simp,?_⟩
 rw [Tryz.results58]
 clear hwf
 have hrow:csD (rowC cO a)=a:=aw wa
 have hok:bn (csD (rowC cO a))=bn a:=by rw [aw wa]
 repeat' first
  | refine And.intro ?_ ?_
  | (intro h;cases h)
  | (intro h;rw [h])
  | intro h
 all_goals first
  | (show av _=true;kernel_rfl)
  | (show ba _ _=true;kernel_rfl)
  | exact ⟨a,wa,hs,rfl⟩
  | (show (bD (csD (rowC cO a))).length+2≤maxLen;rw [hrow];simp only [maxLen];omega)
  | (show ((bD (csD (rowC cO a))).length+2) * 8≤140737488355328;rw [hrow];omega)
  | skip
 refine aj (Q:=_) [1,3,4] [1] (fun n q=>∃ i:Int,q=([.ptr 1 1 0,.val false [.sl true 3 (aD a i.toNat)],.val false [.i .i64 i]],[(1,(rowC cO a).map fun c=>.val false [c])])∧0≤i∧i≤(rds a).length∧n=(rds a).length - i.toNat∧((rds a).take i.toNat).all bK=true) ?_ ?_
 · refine ⟨rfl,(rds a).length - 0,0,?_,by omega,by omega,rfl,rfl⟩
   have:aD a (0:Int).toNat=bD (csD (rowC cO a))++ints a [14,15]:=by rw [hrow];simp [aD]
   rw [this]
   rfl
 rintro n q ⟨i,rfl,h1,h2,h3,h4⟩
 have hli:=j6 (a:=a) (i:=i.toNat) (by omega)
 repeat' first
  | refine And.intro ?_ ?_
  | (intro h;cases h)
  | (intro h;rw [h])
  | intro h
 all_goals first
  | exact True.intro
  | exact rfl
  | exact Or.inr rfl
  | omega
  | exact jc6 ‹_›
  | (have hi:i < ((rds a).length:Int):=jc6 ‹decide (i < ((rds a).length:Int))=true›
     have wr:WfRow T [.i .i64,.i .i64,.i .i64,.s,.i .i64,.i .i64,.i .i64,.s,.l 74,.l 9,.l 124] ((rds a).getD i.toNat []):=wR.row rfl (by omega)
     have hb:=(hs4 i.toNat (by omega)).2
     first
      | exact ⟨_,wr.sub 4 7 (by decide),rfl⟩
      | (show (aD a i.toNat).length+3≤maxLen;simp only [maxLen];omega)
      | (show ((aD a i.toNat).length+3) * 8≤140737488355328;omega)
      | (refine resB (jeC ?_ hok.symm)
         have hbad:bK ((rds a).getD i.toNat [])=false:=by first|exact badRd wr hb ‹_›|exact nz ‹_› ‹_›
         unfold bn
         rw [gZ h1 hi hbad,jdK])
      | (have hgd:bK ((rds a).getD i.toNat [])=true:=by
          refine ua wr hb (by assumption) ?_
          first
           | (left;simpa using ‹(_ != (1:Int))=false›)
           | (right;simpa using ‹(_ != (6:Int))=false›)
         refine ⟨(rds a).length - (i+1).toNat,by omega,i+1,?_,by omega,by omega,rfl,g9 h1 hi h4 hgd⟩
         exact oq (fun r z=>([.ptr 1 1 0,.val false [.sl true 3 r],.val false [.i .i64 z]],[(1,(rowC cO a).map fun c=>.val false [c])])) (gK h1 hi) (aC h1 hi lr)))
  | skip
 have he:i.toNat=(rds a).length:=by
  have:¬ i < ((rds a).length:Int):=jdh (by assumption)
  omega
 rw [he,jdZ] at h4
 rw [he] at hli
 rw [he]
 have hln:(aD a (rds a).length).length≤maxLen:=by simp only [maxLen];omega
 refine aj (Q:=_) [1,3,6] [1] (fun n q=>∃ k:Int,q=([.ptr 1 1 0,.val false [.sl true 3 (aD a (rds a).length)],.val false [.i .i64 k]],[(1,(rowC cO a).map fun c=>.val false [c])])∧0≤k∧k≤(aD a (rds a).length).length∧n=(aD a (rds a).length).length - k.toNat∧((aD a (rds a).length).take k.toNat).all bY=true) ?_ ?_
 · exact ⟨rfl,(aD a (rds a).length).length - 0,0,rfl,by omega,by omega,rfl,rfl⟩
 rintro n q ⟨k,rfl,k1,k2,k3,k4⟩
 repeat' first
  | refine And.intro ?_ ?_
  | (intro h;cases h)
  | (intro h;rw [h])
  | intro h
 all_goals first
  | exact True.intro
  | exact rfl
  | exact Or.inr rfl
  | omega
  | exact jc6 ‹_›
  | exact ⟨a,wa,rfl⟩
  | exact ⟨_,rfl⟩
  | (have hk:k < ((aD a (rds a).length).length:Int):=jc6 ‹decide (k < ((aD a (rds a).length).length:Int))=true›
     first
      | omega
      | (refine resB (jeC ?_ hok.symm)
         have hA:=gZ (p:=bY) k1 hk (by simpa [bY] using ‹(!inR _ (-1000000000) 1000000000)=true›)
         unfold bn
         rw [hA,jdK,jdF])
      | exact ⟨(aD a (rds a).length).length - (k+1).toNat,by omega,k+1,congrArg (fun z:Int=>(([.ptr 1 1 0,.val false [.sl true 3 (aD a (rds a).length)],.val false [.i .i64 z]],[(1,(rowC cO a).map fun c=>.val false [c])]):Snap)) (aC k1 hk hln),by omega,by omega,rfl,g9 k1 hk k4 (by simpa [bY] using ‹(!inR _ (-1000000000) 1000000000)=false›)⟩)
  | (have hA:=pn k1 k2 (by assumption) k4
     refine resB (jeC ?_ hok.symm)
     unfold bn
     rw [h4,hA,jdS,jdS]
     exact congrArg okOp hrow)
theorem wG {p:List D→Bool} {rows:List (List D)} {i:Int} (h0:0≤i) (hi:i < rows.length):(rows.take (i+1).toNat).all p=((rows.take i.toNat).all p && p (rows.getD i.toNat [])):=by
 have e:(i+1).toNat=i.toNat+1:=by omega
 rw [e,jd5,fH h0 hi,je8]
 simp
theorem jbl (f:List (List D)→Bool→Int→Snap) {r r' : List (List D)} {x x' : Bool} {a b:Int} (h:r=r') (h1:x=x') (h2:a=b):f r x a=f r' x' b:=by rw [h,h1,h2]
theorem flag1 {b y z:Bool} (h:(b || !y)=true):true=(b || !(y && z)):=by revert h;cases b <;> cases y <;> cases z <;> simp
theorem flag2 {b y z:Bool} (h:(b || !y)=false):(!z)=(b || !(y && z)):=by revert h;cases b <;> cases y <;> cases z <;> simp
theorem ok52:FOk Tryz.prog T 52 (w8 9):=by
 refine fokB (env:=envL [(82,jb),(31,cu)]) (N:=36) tabT (aa ok82 (aa ok31 ae)) mixed Tryz.func52 rfl Tryz.call52 Tryz.ntmps52 ?_
 rintro cs args ⟨ws,nums,b,hl,he⟩ hwf
 simp only [jdw,SV.tup.injEq,jdA,true_and,and_true] at he
 obtain ⟨rfl,rfl⟩:=he
 have wa:WfD T (.l 3) (.l nums):=arg0 hwf (jdo _)
 have la:=wa.len
 clear hwf
 refine ⟨by simp,?_⟩
 rw [Tryz.results52]
 repeat' first
  | refine And.intro ?_ ?_
  | (intro h;cases h)
  | (intro h;rw [h])
  | intro h
 all_goals first
  | skip
 refine aj (Q:=_) [0,6,7,8] [36] (fun n q=>∃ i:Int,q=([.ptr 36 0 0,argS 3 nums,.val false [.i .i64 (nums.length:Int)],.val false [.i .i64 i]],[(0,[.val false [.sl true 9 (ws++(nums.take (i).toNat).map rowW)],.val false [.b (b || !((nums.take (i).toNat).all bY))]])])∧0≤i∧i≤nums.length∧n=nums.length - i.toNat) ?_ ?_
 · refine ⟨rfl,nums.length - 0,0,?_,by omega,by omega,rfl⟩
   have h1:ws++(nums.take (0:Int).toNat).map rowW=ws:=by simp
   have h2:(b || !((nums.take (0:Int).toNat).all bY))=b:=by simp
   rw [h1,h2]
   rfl
 rintro n q ⟨i,rfl,h1,h2,h3⟩
 repeat' first
  | refine And.intro ?_ ?_
  | (intro h;cases h)
  | (intro h;rw [h])
  | intro h
 all_goals first
  | (show av _=true;kernel_rfl)
  | (show ba _ _=true;kernel_rfl)
  | exact True.intro
  | exact rfl
  | exact Or.inl rfl
  | omega
  | exact jc6 ‹_›
  | exact ⟨_,rfl⟩
  | (have hi:i < (nums.length:Int):=jc6 ‹decide (i < (nums.length:Int))=true›
     have hln:(ws++(nums.take i.toNat).map rowW).length=ws.length+i.toNat:=by rw [jc8,jdi,jdp,jel (by omega)]
     first
      | (rw [hln];show ws.length+i.toNat+1≤maxLen;simp only [maxLen];omega)
      | (rw [hln];show (ws.length+i.toNat+1) * 16≤140737488355328;omega)
      | (refine ⟨nums.length - (i+1).toNat,by omega,i+1,?_,by omega,by omega,rfl⟩
         exact jbl (fun r x z=>([.ptr 36 0 0,argS 3 nums,.val false [.i .i64 (nums.length:Int)],.val false [.i .i64 z]],[(0,[.val false [.sl true 9 r],.val false [.b x]])])) (by rw [mj h1 hi,jdM];rfl) (by rw [wG h1 hi];first|exact flag1 ‹_›|exact flag2 ‹_›) (aC h1 hi la)))
  | (have he:i.toNat=nums.length:=by
      have:¬ i < (nums.length:Int):=jdh (by assumption)
      omega
     simp only [he,jdZ]
     rfl)
theorem ok53:FOk Tryz.prog T 53 (rU 9):=by
 refine fokB (env:=envL [(83,vw)]) (N:=24) tabT (aa ok83 ae) mixed Tryz.func53 rfl Tryz.call53 Tryz.ntmps53 ?_
 rintro cs args ⟨ws,txts,b,hl,hsz,he⟩ hwf
 simp only [jdw,SV.tup.injEq,jdA,true_and,and_true] at he
 obtain ⟨rfl,rfl⟩:=he
 have wa:WfD T (.l 9) (.l txts):=arg0 hwf (jdo _)
 have la:=wa.len
 clear hwf
 refine ⟨by simp,?_⟩
 rw [Tryz.results53]
 repeat' first
  | refine And.intro ?_ ?_
  | (intro h;cases h)
  | (intro h;rw [h])
  | intro h
 all_goals first
  | skip
 refine aj (Q:=_) [0,6,7,8] [24] (fun n q=>∃ i:Int,q=([.ptr 24 0 0,argS 9 txts,.val false [.i .i64 (txts.length:Int)],.val false [.i .i64 i]],[(0,[.val false [.sl true 9 (ws++(txts.take (i).toNat).map rowE)],.val false [.b b]])])∧0≤i∧i≤txts.length∧n=txts.length - i.toNat) ?_ ?_
 · refine ⟨rfl,txts.length - 0,0,?_,by omega,by omega,rfl⟩
   have h1:ws++(txts.take (0:Int).toNat).map rowE=ws:=by simp
   rw [h1]
   rfl
 rintro n q ⟨i,rfl,h1,h2,h3⟩
 repeat' first
  | refine And.intro ?_ ?_
  | (intro h;cases h)
  | (intro h;rw [h])
  | intro h
 all_goals first
  | (show av _=true;kernel_rfl)
  | (show ba _ _=true;kernel_rfl)
  | exact True.intro
  | exact rfl
  | exact Or.inl rfl
  | omega
  | exact jc6 ‹_›
  | (have hi:i < (txts.length:Int):=jc6 ‹decide (i < (txts.length:Int))=true›
     have hln:(ws++(txts.take i.toNat).map rowE).length=ws.length+i.toNat:=by rw [jc8,jdi,jdp,jel (by omega)]
     first
      | exact ⟨_,hsz i.toNat (by omega),rfl⟩
      | (rw [hln];show ws.length+i.toNat+1≤maxLen;simp only [maxLen];omega)
      | (rw [hln];show (ws.length+i.toNat+1) * 16≤140737488355328;omega)
      | (refine ⟨txts.length - (i+1).toNat,by omega,i+1,?_,by omega,by omega,rfl⟩
         exact oq (fun r z=>([.ptr 24 0 0,argS 9 txts,.val false [.i .i64 (txts.length:Int)],.val false [.i .i64 z]],[(0,[.val false [.sl true 9 r],.val false [.b b]])])) (by rw [mj h1 hi,jdM];rfl) (aC h1 hi la)))
  | (have he:i.toNat=txts.length:=by
      have:¬ i < (txts.length:Int):=jdh (by assumption)
      omega
     simp only [he,jdZ]
     rfl)
theorem j5 {a:List D} (h:bn a=true):aJ a=bg (strsOf (aL a (rds a).length)) ⟨#[32]⟩:=if_pos h
theorem fw {a:List D} (h:bn a=false):aJ a=⟨#[]⟩:=if_neg (by rw [h];decide)
theorem ok34:FOk Tryz.prog T 34 (vr T cO):=by
 refine fok (env:=envL [(58,(xf T cO)),(59,(r7 T cO)),(35,cu),(60,vw),(61,(kV T cV)),(62,spJoin)]) (N:=93) tabT (aa ok58 (aa ok59 (aa ok35 (aa ok60 (aa ok61 (aa ok62 ae)))))) mixed Tryz.func34 rfl Tryz.call34 Tryz.ntmps34 ?_
 rintro args ⟨a,wa,hs,rfl⟩ hwf
 have hs1:=hs.1
 have hs2:=hs.2.1
 have hs3:=hs.2.2.1
 have hs4:=hs.2.2.2
 have hl:=bW a
 have hl1:=aQ a
 have hl2:=c8 a
 have wR:WfD T (.l 76) (.l (rds a)):=wa.rows (j:=16) rfl
 have lr:=wR.len
 refine ⟨by simp,?_⟩
 rw [Tryz.results34]
 clear hwf
 have hrow:csD (rowC cO a)=a:=aw wa
 have hok:aJ (csD (rowC cO a))=aJ a:=by rw [aw wa]
 repeat' first
  | refine And.intro ?_ ?_
  | (intro h;cases h)
  | (intro h;rw [h])
  | intro h
 all_goals first
  | exact True.intro
  | exact Or.inr rfl
  | exact ⟨a,wa,hs,rfl⟩
  | (refine resS (jeC ?_ hok.symm)
     have hg:(!bn (csD (rowC cO a)))=true:=by assumption
     rw [hrow] at hg
     exact (fw (by simpa using hg)).symm)
  | skip
 have hg:bn a=true:=by
  have hg:(!bn (csD (rowC cO a)))=false:=by assumption
  rw [hrow] at hg
  simpa using hg
 have hgr:=hg
 simp only [bn,jdj] at hgr
 refine aj (Q:=_) [1,3,4,5] [1] (fun n q=>∃ i:Int,q=([.ptr 1 1 0,.val false [.sl true 9 ((bD a).take i.toNat |>.map rowW)],.val false [.sl true 3 (bD a)],.val false [.i .i64 i]],[(1,(rowC cO a).map fun c=>.val false [c])])∧0≤i∧i≤(bD a).length∧n=(bD a).length - i.toNat) ?_ ?_
 · refine ⟨rfl,(bD a).length - 0,0,?_,by omega,by omega,rfl⟩
   have hn:bD (csD (rowC cO a))=bD a:=by rw [hrow]
   rw [← hn]
   rfl
 rintro n q ⟨i,rfl,h1,h2,h3⟩
 have hmx:(bD a).length≤maxLen:=by simp only [maxLen];omega
 repeat' first
  | refine And.intro ?_ ?_
  | (intro h;cases h)
  | (intro h;rw [h])
  | intro h
 all_goals first
  | (show av _=true;kernel_rfl)
  | (show ba _ _=true;kernel_rfl)
  | exact rfl
  | omega
  | exact jc6 ‹_›
  | exact ⟨_,rfl⟩
  | (have hi:i < ((bD a).length:Int):=jc6 ‹decide (i < ((bD a).length:Int))=true›
     have hln:((bD a).take i.toNat |>.map rowW).length=i.toNat:=by rw [jdi,jdp,jel (by omega)]
     first
      | omega
      | (rw [hln];show i.toNat+1≤maxLen;simp only [maxLen];omega)
      | (rw [hln];show (i.toNat+1) * 16≤140737488355328;omega)
      | (refine ⟨(bD a).length - (i+1).toNat,by omega,i+1,?_,by omega,by omega,rfl⟩
         exact oq (fun r z=>([.ptr 1 1 0,.val false [.sl true 9 r],.val false [.sl true 3 (bD a)],.val false [.i .i64 z]],[(1,(rowC cO a).map fun c=>.val false [c])])) (by rw [mj h1 hi];rfl) (aC h1 hi hmx)))
  | exact ⟨_,jdd hs3.1 (by decide),rfl⟩
  | exact ⟨_,jdd hs3.2.1 (by decide),rfl⟩
  | exact ⟨_,jdd hs3.2.2.1 (by decide),rfl⟩
  | exact ⟨_,jdd hs3.2.2.2 (by decide),rfl⟩
  | (have hln:((bD a).take i.toNat |>.map rowW).length=i.toNat:=by rw [jdi,jdp,jel (by omega)]
     have h2' : i.toNat≤1048585:=by omega
     clear h1 h2 h3
     first
      | (rw [hln];show i.toNat+4≤maxLen;simp only [maxLen];omega)
      | (rw [hln];show (i.toNat+4) * 16≤140737488355328;omega)
      | (rw [jc8,hln];show i.toNat+4+3≤maxLen;simp only [maxLen];omega)
      | (rw [jc8,hln];show (i.toNat+4+3) * 16≤140737488355328;omega))
  | skip
 have he:i.toNat=(bD a).length:=by
  have:¬ i < ((bD a).length:Int):=jdh (by assumption)
  omega
 rw [he,jdZ]
 clear h1 h2 h3 he
 refine aj (Q:=_) [1,3,6] [1] (fun n q=>∃ i:Int,q=([.ptr 1 1 0,.val false [.sl true 9 (aL a i.toNat)],.val false [.i .i64 i]],[(1,(rowC cO a).map fun c=>.val false [c])])∧0≤i∧i≤(rds a).length∧n=(rds a).length - i.toNat) ?_ ?_
 · refine ⟨rfl,(rds a).length - 0,0,?_,by omega,by omega,rfl⟩
   have h0:aL a (0:Int).toNat=dn a:=by simp [aL]
   rw [h0]
   rfl
 rintro n q ⟨i,rfl,h1,h2,h3⟩
 have hli:=bu (a:=a) (i:=i.toNat) (by omega)
 repeat' first
  | refine And.intro ?_ ?_
  | (intro h;cases h)
  | (intro h;rw [h])
  | intro h
 all_goals first
  | (show av _=true;kernel_rfl)
  | (show ba _ _=true;kernel_rfl)
  | exact True.intro
  | exact rfl
  | exact Or.inr rfl
  | omega
  | exact jc6 ‹_›
  | exact ⟨_,rfl⟩
  | (have hi:i < ((rds a).length:Int):=jc6 ‹decide (i < ((rds a).length:Int))=true›
     have wr:WfRow T [.i .i64,.i .i64,.i .i64,.s,.i .i64,.i .i64,.i .i64,.s,.l 74,.l 9,.l 124] ((rds a).getD i.toNat []):=wR.row rfl (by omega)
     have hb:=hs4 i.toNat (by omega)
     have hgi:bK ((rds a).getD i.toNat [])=true:=jdt.1 hgr.1 _ (jdq (fH h1 hi))
     first
      | exact ⟨_,jdd hb.1 (by decide),rfl⟩
      | exact ⟨_,wr.sub 4 7 (by decide),⟨jdd hb.2 (by decide),cf hgi,cS hgi⟩,rfl⟩
      | (have hf:bE (csD (rowC cV (sub ((rds a).getD i.toNat []) 4 7)))=bE (sub ((rds a).getD i.toNat []) 4 7):=congrArg bE (aw (wr.sub 4 7 (by decide)))
         have hz:(bE (csD (rowC cV (sub ((rds a).getD i.toNat []) 4 7)))).size≤70368744177664:=by rw [hf];exact jdd (dX (cS hgi) (cf hgi)) (by decide)
         first
          | exact ⟨_,hz,rfl⟩
          | (rw [hli];show (a.getD 3 default).rows.length+16+5 * i.toNat+5≤maxLen;simp only [maxLen];omega)
          | (rw [hli];show ((a.getD 3 default).rows.length+16+5 * i.toNat+5) * 16≤140737488355328;omega)
          | (refine ⟨(rds a).length - (i+1).toNat,by omega,i+1,?_,by omega,by omega,rfl⟩
             exact oq (fun r z=>([.ptr 1 1 0,.val false [.sl true 9 r],.val false [.i .i64 z]],[(1,(rowC cO a).map fun c=>.val false [c])])) (by rw [← fJ h1 hi,bj, ← hf];rfl) (aC h1 hi lr))))
  | (have he:i.toNat=(rds a).length:=by
      have:¬ i < ((rds a).length:Int):=jdh (by assumption)
      omega
     rw [he] at hli ⊢
     first
      | exact ⟨_,_,by omega,f9 hs hg,rfl⟩
      | exact resS (jeC (j5 hg).symm hok.symm))
theorem jcR {r:List D} (wr:WfRow T [.i .i64,.i .i64,.i .i64,.s,.i .i64,.i .i64,.i .i64,.s,.l 74,.l 9,.l 124] r) (h:(!svOk [argG cV (sub r 4 7)])=true):bK r=false:=by
 have he:svOk [argG cV (sub r 4 7)]=okVal (sub r 4 7):=congrArg okVal (aw (wr.sub 4 7 (by decide)))
 rw [he] at h
 unfold bK
 rw [show okVal (sub r 4 7)=false by simpa using h,jdF]
theorem ra {r:List D} (wr:WfRow T [.i .i64,.i .i64,.i .i64,.s,.i .i64,.i .i64,.i .i64,.s,.l 74,.l 9,.l 124] r) (h:(!svOk [argG cV (sub r 4 7)])=false) (hk:(r.getD 4 default).int=1∨(r.getD 4 default).int=6):bK r=true:=by
 have he:svOk [argG cV (sub r 4 7)]=okVal (sub r 4 7):=congrArg okVal (aw (wr.sub 4 7 (by decide)))
 rw [he] at h
 unfold bK
 rw [show okVal (sub r 4 7)=true by simpa using h,jdQ]
 rcases hk with h1|h6
 · rw [h1];rfl
 · rw [h6];rfl
theorem ok30:FOk Tryz.prog T 30 (vr T cO):=by
 have hE:gj Tryz.prog T (envL [(51,(spOp T cO)),(52,(w8 9)),(53,(rU 9)),(54,sp54),(55,(kV T cV)),(56,spJoin)]):=(aa ok51 (aa ok52 (aa ok53 (aa ok54 (aa ok55 (aa ok56 ae))))))
 refine jcq (N:=116) tabT Tryz.func30 rfl Tryz.call30 Tryz.ntmps30 rfl ?_
 rintro args ⟨a,wa,hs,rfl⟩ hwf
 have hs1:=hs.1
 have hs2:=hs.2.1
 have hs3:=hs.2.2.1
 have hs4:=hs.2.2.2
 have hl:=bW a
 have hl1:=aQ a
 have hl2:=c8 a
 have wR:WfD T (.l 76) (.l (rds a)):=wa.rows (j:=16) rfl
 have lr:=wR.len
 refine ⟨by simp,?_⟩
 rw [Tryz.results30]
 clear hwf
 have hrow:csD (rowC cO a)=a:=aw wa
 have hok:aJ (csD (rowC cO a))=aJ a:=by rw [aw wa]
 have hok2:okOp (csD (rowC cO a))=okOp a:=by rw [aw wa]
 refine Snd.cut2 tabT hE mixed [1] [1] (fun q=>q=([.ptr 1 1 0],[(1,(rowC cO a).map fun c=>.val false [c])])∧okOp a=true) ?_ ?_
 · repeat' first
    | refine And.intro ?_ ?_
    | (intro h;cases h)
    | (intro h;rw [h])
    | intro h
   all_goals first
    | exact True.intro
    | exact rfl
    | exact Or.inr rfl
    | exact ⟨a,wa,rfl⟩
    | (refine resS (jeC ?_ hok.symm)
       have hg:(!okOp (csD (rowC cO a)))=true:=by assumption
       rw [hok2] at hg
       have hg:bn a=false:=by unfold bn;rw [show okOp a=false by simpa using hg,jdF,jdF]
       exact (fw hg).symm)
    | (have hg:(!okOp (csD (rowC cO a)))=false:=by assumption
       rw [hok2] at hg
       simpa using hg)
 rintro q ⟨rfl,hop⟩
 refine Snd.cut2 tabT hE mixed [1,3] [1,11] (fun q=>q=([.ptr 1 1 0,.ptr 11 1 0],[(1,(rowC cO a).map fun c=>.val false [c]),(1,[.val false [.sl true 9 ((ints a [0,1,2]).map rowW)],.val false [.b (!(ints a [0,1,2]).all bY)]])])) ?_ ?_
 · repeat' first
    | refine And.intro ?_ ?_
    | (intro h;cases h)
    | (intro h;rw [h])
    | intro h
   all_goals first
    | exact rfl
    | (refine ⟨_,_,_,?_,rfl⟩;first|(simp only [jc8,jdi,jdl,jdu,ints,aQ];omega)|(simp only [jc8,jdi,jdl,jdu,ints,aQ,Nat.reduceAdd];omega)|(show (3+(a.getD 3 default).rows.length) * 16≤140737488355328;omega))
 rintro q rfl
 refine Snd.cut2 tabT hE mixed [1,3,4] [1,11,4] (fun q=>q=([.ptr 1 1 0,.ptr 11 1 0,.ptr 4 1 0],[(1,(rowC cO a).map fun c=>.val false [c]),(1,[.val false [.sl true 9 ((ints a [0,1,2]).map rowW++(a.getD 3 default).rows.map rowW)],.val false [.b (!(ints a [0,1,2]).all bY || !(a.getD 3 default).rows.all bY)]]),(1,(rowC [.i .i64,.i .i64,.i .i64,.s,.s,.i .i64] (sub a 6 6)).map fun c=>.val false [c])])) ?_ ?_
 · repeat' first
    | refine And.intro ?_ ?_
    | (intro h;cases h)
    | (intro h;rw [h])
    | intro h
   all_goals first
    | exact rfl
    | (refine ⟨_,_,_,?_,rfl⟩;first|(simp only [jc8,jdi,jdl,jdu,ints,aQ];omega)|(simp only [jc8,jdi,jdl,jdu,ints,aQ,Nat.reduceAdd];omega)|(show (3+(a.getD 3 default).rows.length) * 16≤140737488355328;omega))
 rintro q rfl
 refine Snd.cut2 tabT hE mixed [1,3] [1,11] (fun q=>q=([.ptr 1 1 0,.ptr 11 1 0],[(1,(rowC cO a).map fun c=>.val false [c]),(1,[.val false [.sl true 9 ((ints a [0,1,2]).map rowW++(a.getD 3 default).rows.map rowW++(ints a [4,5,6,7,8,11]).map rowW++[encW (a.getD 9 default).str,encW (a.getD 10 default).str,encW (a.getD 12 default).str,encW (a.getD 13 default).str])],.val false [.b (!(ints a [0,1,2]).all bY || !(a.getD 3 default).rows.all bY || !(ints a [4,5,6,7,8,11]).all bY)]])])) ?_ ?_
 · repeat' first
    | refine And.intro ?_ ?_
    | (intro h;cases h)
    | (intro h;rw [h])
    | intro h
   all_goals first
    | exact rfl
    | (refine ⟨_,_,_,?_,rfl⟩;first|(simp only [jc8,jdi,jdl,jdu,ints,aQ];omega)|(simp only [jc8,jdi,jdl,jdu,ints,aQ,Nat.reduceAdd];omega)|(show (3+(a.getD 3 default).rows.length) * 16≤140737488355328;omega))
    | (refine ⟨_,_,_,?_,txt4 (jdd hs3.1 (by decide)) (jdd hs3.2.1 (by decide)) (jdd hs3.2.2.1 (by decide)) (jdd hs3.2.2.2 (by decide)),rfl⟩;simp only [jc8,jdi,jdl,jdu,ints];omega)
 rintro q rfl
 rw [← oK,ju,ju]
 refine Snd.cut2 tabT hE mixed [3] [11] (fun q=>q=([.ptr 11 1 0],[(1,[.val false [.sl true 9 (aL a (rds a).length)],.val false [.b (iw a (rds a).length)]])])∧(rds a).all bK=true) ?_ ?_
 · repeat' first
    | refine And.intro ?_ ?_
    | (intro h;cases h)
    | (intro h;rw [h])
    | intro h
   all_goals first
    | exact rfl
    | (refine ⟨_,_,_,?_,rfl⟩;first|(simp only [jc8,jdi,jdl,jdu,ints,aQ];omega)|(simp only [jc8,jdi,jdl,jdu,ints,aQ,Nat.reduceAdd];omega)|(show (3+(a.getD 3 default).rows.length) * 16≤140737488355328;omega))
    | skip
   refine aj (Q:=_) [3,67,68,69] [11] (fun n q=>∃ i:Int,q=([.ptr 11 1 0,argS 76 (rds a),.val false [.i .i64 ((rds a).length:Int)],.val false [.i .i64 i]],[(1,[.val false [.sl true 9 (aL a (i).toNat)],.val false [.b (iw a (i).toNat)]])])∧0≤i∧i≤(rds a).length∧n=(rds a).length - i.toNat∧((rds a).take i.toNat).all bK=true) ?_ ?_
   · refine ⟨rfl,(rds a).length - 0,0,?_,by omega,by omega,rfl,rfl⟩
     have h0:aL a (0:Int).toNat=dn a:=by simp [aL]
     have h0' : iw a (0:Int).toNat=iw a 0:=rfl
     rw [h0,h0', ← qU hs2]
     rfl
   rintro n q ⟨i,rfl,h1,h2,h3,h4⟩
   have hli:=bu (a:=a) (i:=i.toNat) (by omega)
   repeat' first
    | refine And.intro ?_ ?_
    | (intro h;cases h)
    | (intro h;rw [h])
    | intro h
   all_goals first
    | (show av _=true;kernel_rfl)
    | (show ba _ _=true;kernel_rfl)
    | exact True.intro
    | exact rfl
    | exact Or.inr rfl
    | omega
    | exact jc6 ‹_›
    | (have hi:i < ((rds a).length:Int):=jc6 ‹decide (i < ((rds a).length:Int))=true›
       have wr:WfRow T [.i .i64,.i .i64,.i .i64,.s,.i .i64,.i .i64,.i .i64,.s,.l 74,.l 9,.l 124] ((rds a).getD i.toNat []):=wR.row rfl (by omega)
       have hb:=hs4 i.toNat (by omega)
       first
        | (refine ⟨sub ((rds a).getD i.toNat []) 4 7,wr.sub 4 7 (by decide),jdd hb.2 (by decide),?_,rfl⟩
           first
            | (left;simpa using ‹(_ != (1:Int))=false›)
            | (right;simpa using ‹(_ != (6:Int))=false›))
        | (refine resS (jeC ?_ hok.symm)
           have hbad:bK ((rds a).getD i.toNat [])=false:=by first|exact nz ‹_› ‹_›|exact jcR wr ‹_›
           have hg:bn a=false:=by unfold bn;rw [gZ h1 hi hbad,jdK]
           exact (fw hg).symm)
        | (refine ⟨_,_,_,?_,rfl⟩
           rw [hli]
           show ((a.getD 3 default).rows.length+16+5 * i.toNat+3) * 16≤140737488355328
           omega)
        | (have hgi:bK ((rds a).getD i.toNat [])=true:=by
            refine ra wr (by assumption) ?_
            first
             | (left;simpa using ‹(_ != (1:Int))=false›)
             | (right;simpa using ‹(_ != (6:Int))=false›)
           have hf:bE (csD (rowC cV (sub ((rds a).getD i.toNat []) 4 7)))=bE (sub ((rds a).getD i.toNat []) 4 7):=congrArg bE (aw (wr.sub 4 7 (by decide)))
           have hz:(bE (csD (rowC cV (sub ((rds a).getD i.toNat []) 4 7)))).size≤70368744177664:=by rw [hf];exact jdd (dX (cS hgi) (cf hgi)) (by decide)
           first
            | exact ⟨_,wr.sub 4 7 (by decide),⟨jdd hb.2 (by decide),cf hgi,cS hgi⟩,rfl⟩
            | (refine ⟨_,_,_,?_,txt2 (jdd hb.1 (by decide)) hz,rfl⟩
               rw [jc8,jdi,hli]
               show ((a.getD 3 default).rows.length+16+5 * i.toNat+3+2) * 16≤140737488355328
               omega)
            | (refine ⟨(rds a).length - (i+1).toNat,by omega,i+1,?_,by omega,by omega,rfl,g9 h1 hi h4 hgi⟩
               exact jbl (fun r x z=>([.ptr 11 1 0,argS 76 (rds a),.val false [.i .i64 ((rds a).length:Int)],.val false [.i .i64 z]],[(1,[.val false [.sl true 9 (r)],.val false [.b (x)]])])) (by rw [← fJ h1 hi,bj, ← hf,jdM];rfl) (by rw [← qV h1 hi];rfl) (aC h1 hi lr))))
    | (have he:i.toNat=(rds a).length:=by
        have:¬ i < ((rds a).length:Int):=jdh (by assumption)
        omega
       first
        | (rw [he,jdZ] at h4;exact h4)
        | (rw [he];rfl))
 rintro q ⟨rfl,hall⟩
 refine Snd.of_awp tabT hE mixed ?_
 repeat' first
  | refine And.intro ?_ ?_
  | (intro h;cases h)
  | (intro h;rw [h])
  | intro h
 all_goals first
  | exact True.intro
  | exact Or.inr rfl
  | (have hf:iw a (rds a).length=true:=by assumption
     have hg:bn a=false:=by
      unfold bn
      rw [show (aD a (rds a).length).all bY=false by simpa [iw] using hf,jdK,jdF]
     exact resS (jeC (fw hg).symm hok.symm))
  | (have hf:iw a (rds a).length=false:=by assumption
     have hg:bn a=true:=by
      unfold bn
      rw [hall,show (aD a (rds a).length).all bY=true by simpa [iw] using hf,hop]
      rfl
     have hln:=bu (a:=a) (jdm (rds a).length)
     first
      | exact ⟨_,_,by omega,f9 hs hg,rfl⟩
      | exact resS (jeC (j5 hg).symm hok.symm))
end Go.Proofs.YtdkofgjbbdbglaaGreatDoor.Ab
