/- Operations checked: printed by a program of this -/
import Derived.Test.YtcllpknipmcolaaGreatDoorCFe
import Derived.Test.YtcllpknipmcolaaGreatDoorCFh
namespace Go.Proofs.YtcllpknipmcolaaGreatDoor.Ab
open Go.RowKit
set_option linter.all false
set_option maxRecDepth 100000
set_option maxHeartbeats 1000000
theorem ok127:FOk Tryz.prog T 127 wz:=by
 refine fok (env:=envL [(126,spIn)]) (N:=19) tabT (aa ok126 ae) mixed Tryz.func127 rfl Tryz.call127 Tryz.ntmps127 ?_
 rintro args ⟨a,rfl⟩ hwf
 have wa:WfD T (.l 3) (.l a):=arg0 hwf (jcC _)
 have la:=wa.len
 clear hwf
 refine ⟨by simp,?_⟩
 rw [Tryz.results127]
 repeat' first
  | (refine And.intro ?_ ?_)
  | (intro h;cases h)
  | (intro h;rw [h])
  | (intro h)
 all_goals first
  | skip
 refine am (Q:=_) [0,3] [] (fun n q=>∃ i:Int,q=([argS 3 a,.val false [.i .i64 i]],[])∧0≤i∧i≤a.length∧n=a.length - i.toNat∧(a.take i.toNat).all (fun r=>inR (intOf r) 0 60)=true) ?_ ?_
 · exact ⟨rfl,a.length - 0,0,rfl,by omega,by omega,rfl,rfl⟩
 rintro n q ⟨i,rfl,h1,h2,h3,h4⟩
 repeat' first
  | (refine And.intro ?_ ?_)
  | (intro h;cases h)
  | (intro h;rw [h])
  | (intro h)
 all_goals first
  | exact True.intro
  | exact rfl
  | exact Or.inr rfl
  | omega
  | exact jck ‹_›
  | exact ⟨_,_,_,rfl⟩
  | (have hA:=o8 h1 h2 ‹_› h4
     refine resB ?_
     simp only [gv,hA,jc6]
     rw [jd7]
     simp
     omega)
  | (have hi:i < (a.length:Int):=jck ‹decide (i < (a.length:Int))=true›
     first
      | (have hA:=gU (p:=fun r=>inR (intOf r) 0 60) h1 hi (by simpa using ‹(!inR _ 0 60)=true›)
         exact resB (by simp [gv,hA]))
      | exact ⟨a.length - (i+1).toNat,by omega,i+1,congrArg (fun z:Int=>(([argS 3 a,.val false [.i .i64 z]],[]):Snap)) (aE h1 hi la),by omega,by omega,rfl,gV h1 hi h4 (by simpa using ‹(!inR _ 0 60)=false›)⟩)
theorem ok84:FOk Tryz.prog T 84 (spOp T cO):=by
 refine fok (env:=envL [(126,spIn),(127,wz)]) (N:=72) tabT (aa ok126 (aa ok127 ae)) mixed Tryz.func84 rfl Tryz.call84 Tryz.ntmps84 ?_
 rintro args ⟨a,wa,rfl⟩ hwf
 refine ⟨by simp,?_⟩
 rw [Tryz.results84]
 clear hwf
 repeat' first
  | (refine And.intro ?_ ?_)
  | (intro h;cases h)
  | (intro h;rw [h])
  | (intro h)
 all_goals first
  | exact True.intro
  | exact Or.inr rfl
  | exact ⟨_,rfl⟩
  | exact ⟨_,_,_,rfl⟩
  | (refine resB (jdQ ?_ (okOp_rowC wa).symm);clear wa;simp_all [okOp,kV,im,kU,eqDs,eqD,inR];done)
  | (refine resB (jdQ ?_ (okOp_rowC wa).symm);clear wa;simp_all [okOp,kV,im,kU,eqDs,eqD,inR];omega)
theorem hEmp:ByteArray.empty.toList=(⟨#[]⟩:ByteArray).toList:=rfl
theorem ok22:FOk Tryz.prog T 22 (spOp T cO):=by
 refine fok (env:=envL [(53,spIn)]) (N:=81) tabT (aa ok53 ae) mixed Tryz.func22 rfl Tryz.call22 Tryz.ntmps22 ?_
 rintro args ⟨a,wa,rfl⟩ hwf
 have wS:WfD T (.l 3) (.l (a.getD 3 default).rows):=wa.rows (j:=3) rfl
 have la:=wS.len
 refine ⟨by simp,?_⟩
 rw [Tryz.results22]
 clear hwf
 have hok:=okOp_rowC wa
 repeat' first
  | (refine And.intro ?_ ?_)
  | (intro h;cases h)
  | (intro h;rw [h])
  | (intro h)
 all_goals first
  | exact True.intro
  | exact Or.inr rfl
  | exact ⟨_,_,_,rfl⟩
  | (refine resB (jdQ ?_ hok.symm);simp_all [okOp,gv];done)
  | (have hh:¬ (a.getD 3 default).rows.length=3:=fun hc=>by
      have hd:((((a.getD 3 default).rows.length:Int) != 3))=true:=‹_›
      rw [hc] at hd
      exact absurd hd (by decide)
     refine resB (jdQ ?_ hok.symm)
     have hs:gv (a.getD 3 default).rows=false:=by unfold gv;rw [decide_eq_false hh,jcT]
     unfold okOp
     rw [hs]
     simp)
  | skip
 have hl:((a.getD 3 default).rows.length:Int)=3:=by simpa using ‹((((a.getD 3 default).rows.length:Int) != 3))=false›
 refine am (Q:=_) [25,26,27,1] [1] (fun n q=>∃ i:Int,q=([argS 3 (a.getD 3 default).rows,.val false [.i .i64 ((a.getD 3 default).rows.length:Int)],.val false [.i .i64 i],.ptr 1 1 0],[(1,(rowC cO a).map fun c=>.val false [c])])∧0≤i∧i≤(a.getD 3 default).rows.length∧n=(a.getD 3 default).rows.length - i.toNat∧((a.getD 3 default).rows.take i.toNat).all (fun r=>inR (intOf r) 0 60)=true) ?_ ?_
 · exact ⟨rfl,(a.getD 3 default).rows.length - 0,0,rfl,by omega,by omega,rfl,rfl⟩
 rintro n q ⟨i,rfl,h1,h2,h3,h4⟩
 repeat' first
  | (refine And.intro ?_ ?_)
  | (intro h;cases h)
  | (intro h;rw [h])
  | (intro h)
 all_goals first
  | exact True.intro
  | exact rfl
  | exact Or.inr rfl
  | omega
  | exact jck ‹_›
  | exact ⟨_,_,_,rfl⟩
  | (have hi:i < ((a.getD 3 default).rows.length:Int):=jck ‹decide (i < ((a.getD 3 default).rows.length:Int))=true›
     first
      | (have hA:=gU (p:=fun r=>inR (intOf r) 0 60) h1 hi (by simpa using ‹(!inR _ 0 60)=true›)
         refine resB (jdQ ?_ hok.symm)
         have hs:gv (a.getD 3 default).rows=false:=by unfold gv;rw [hA,jcY]
         unfold okOp
         rw [hs]
         simp)
      | exact ⟨(a.getD 3 default).rows.length - (i+1).toNat,by omega,i+1,congrArg (fun z:Int=>(([argS 3 (a.getD 3 default).rows,.val false [.i .i64 ((a.getD 3 default).rows.length:Int)],.val false [.i .i64 z],.ptr 1 1 0],[(1,(rowC cO a).map fun c=>.val false [c])]):Snap)) (aE h1 hi la),by omega,by omega,rfl,gV h1 hi h4 (by simpa using ‹(!inR _ 0 60)=false›)⟩)
  | (have hs:gv (a.getD 3 default).rows=true:=by
      have hA:=o8 h1 h2 (by assumption) h4
      unfold gv
      rw [hA,decide_eq_true (by omega)]
      rfl
     refine resB (jdQ ?_ hok.symm)
     clear hok wa wS h4
     simp only [Nat.reduceAdd] at *
     unfold okOp
     rw [hs]
     first
      | (simp_all [kV,im,kU,eqDs,eqD,inR,hEmp];done)
      | (simp_all [kV,im,kU,eqDs,eqD,inR,hEmp];omega))
theorem ok49:FOk Tryz.prog T 49 (rR T cO):=by
 refine fok (env:=envL []) (N:=40) tabT ae mixed Tryz.func49 rfl Tryz.call49 Tryz.ntmps49 ?_
 rintro args ⟨a,wa,hs,rfl⟩ hwf
 have h1:=hs.1
 have hl:=bU a
 refine ⟨by simp,?_⟩
 rw [Tryz.results49]
 clear hwf
 have hok:bC (csD (rowC cO a))=bC a:=by rw [aw wa]
 repeat' first
  | (refine And.intro ?_ ?_)
  | (intro h;cases h)
  | (intro h;rw [h])
  | (intro h)
 all_goals first
  | exact True.intro
  | exact rfl
  | exact Or.inr rfl
  | (show 3+(a.getD 3 default).rows.length≤maxLen;simp only [maxLen];omega)
  | (show (3+(a.getD 3 default).rows.length) * 8≤140737488355328;omega)
  | (rw [jcm];show 3+(a.getD 3 default).rows.length+6≤maxLen;simp only [maxLen];omega)
  | (rw [jcm];show (3+(a.getD 3 default).rows.length+6) * 8≤140737488355328;omega)
theorem badRd {r:List D} (wr:WfRow T [.i .i64,.i .i64,.i .i64,.s,.i .i64,.i .i64,.i .i64,.s,.l 57,.l 9,.l 101] r) (hl:(r.getD 9 default).rows.length+(r.getD 10 default).rows.length≤2097152) (h:(!g82 [argG cV (sub r 4 7)])=true):bK r=false:=by
 by_cases hk:(r.getD 4 default).int=1∨(r.getD 4 default).int=6
 · have hv:=xO _ ⟨sub r 4 7,wr.sub 4 7 (by decide),jcr hl (by decide),hk,rfl⟩
   have he:svOk [argG cV (sub r 4 7)]=okVal (sub r 4 7):=congrArg okVal (aw (wr.sub 4 7 (by decide)))
   rw [hv,he] at h
   unfold bK
   rw [show okVal (sub r 4 7)=false by simpa using h,jcT]
 · unfold bK
   have h1:((r.getD 4 default).int == 1)=false:=by simp only [beq_eq_false_iff_ne,ne_eq];exact fun h=>hk (.inl h)
   have h6:((r.getD 4 default).int == 6)=false:=by simp only [beq_eq_false_iff_ne,ne_eq];exact fun h=>hk (.inr h)
   rw [h1,h6]
   rfl
theorem tN {r:List D} (wr:WfRow T [.i .i64,.i .i64,.i .i64,.s,.i .i64,.i .i64,.i .i64,.s,.l 57,.l 9,.l 101] r) (hl:(r.getD 9 default).rows.length+(r.getD 10 default).rows.length≤2097152) (h:(!g82 [argG cV (sub r 4 7)])=false) (hk:(r.getD 4 default).int=1∨(r.getD 4 default).int=6):bK r=true:=by
 have hv:=xO _ ⟨sub r 4 7,wr.sub 4 7 (by decide),jcr hl (by decide),hk,rfl⟩
 have he:svOk [argG cV (sub r 4 7)]=okVal (sub r 4 7):=congrArg okVal (aw (wr.sub 4 7 (by decide)))
 rw [hv,he] at h
 unfold bK
 rw [show okVal (sub r 4 7)=true by simpa using h,jc4]
 rcases hk with h1|h6
 · rw [h1];rfl
 · rw [h6];rfl
theorem ns {r:List D} (h1:((r.getD 4 default).int != 1)=true) (h6:((r.getD 4 default).int != 6)=true):bK r=false:=by
 unfold bK
 have h1:((r.getD 4 default).int == 1)=false:=by simpa using h1
 have h6:((r.getD 4 default).int == 6)=false:=by simpa using h6
 rw [h1,h6]
 rfl
theorem ok48:FOk Tryz.prog T 48 (wG T cO):=by
 refine fok (env:=envL [(49,(rR T cO)),(82,sp82),(83,iU),(84,(spOp T cO))]) (N:=66) tabT (aa ok49 (aa ok82 (aa ok83 (aa ok84 ae)))) mixed Tryz.func48 rfl Tryz.call48 Tryz.ntmps48 ?_
 rintro args ⟨a,wa,hs,rfl⟩ hwf
 have hs1:=hs.1
 have hs2:=hs.2.1
 have hs4:=hs.2.2.2
 have hl:=bU a
 have wR:WfD T (.l 59) (.l (rds a)):=wa.rows (j:=16) rfl
 have lr:=wR.len
 refine ⟨by simp,?_⟩
 rw [Tryz.results48]
 clear hwf
 have hrow:csD (rowC cO a)=a:=aw wa
 have hok:bo (csD (rowC cO a))=bo a:=by rw [aw wa]
 repeat' first
  | (refine And.intro ?_ ?_)
  | (intro h;cases h)
  | (intro h;rw [h])
  | (intro h)
 all_goals first
  | (show av _=true;kernel_rfl)
  | (show aX _ _=true;kernel_rfl)
  | exact ⟨a,wa,hs,rfl⟩
  | (show (bC (csD (rowC cO a))).length+2≤maxLen;rw [hrow];simp only [maxLen];omega)
  | (show ((bC (csD (rowC cO a))).length+2) * 8≤140737488355328;rw [hrow];omega)
  | skip
 refine am (Q:=_) [1,3,4] [1] (fun n q=>∃ i:Int,q=([.ptr 1 1 0,.val false [.sl true 3 (aD a i.toNat)],.val false [.i .i64 i]],[(1,(rowC cO a).map fun c=>.val false [c])])∧0≤i∧i≤(rds a).length∧n=(rds a).length - i.toNat∧((rds a).take i.toNat).all bK=true) ?_ ?_
 · refine ⟨rfl,(rds a).length - 0,0,?_,by omega,by omega,rfl,rfl⟩
   have:aD a (0:Int).toNat=bC (csD (rowC cO a))++ints a [14,15]:=by rw [hrow];simp [aD]
   rw [this]
   rfl
 rintro n q ⟨i,rfl,h1,h2,h3,h4⟩
 have hli:=jU (a:=a) (i:=i.toNat) (by omega)
 repeat' first
  | (refine And.intro ?_ ?_)
  | (intro h;cases h)
  | (intro h;rw [h])
  | (intro h)
 all_goals first
  | exact True.intro
  | exact rfl
  | exact Or.inr rfl
  | omega
  | exact jck ‹_›
  | (have hi:i < ((rds a).length:Int):=jck ‹decide (i < ((rds a).length:Int))=true›
     have wr:WfRow T [.i .i64,.i .i64,.i .i64,.s,.i .i64,.i .i64,.i .i64,.s,.l 57,.l 9,.l 101] ((rds a).getD i.toNat []):=wR.row rfl (by omega)
     have hb:=(hs4 i.toNat (by omega)).2
     first
      | exact ⟨_,wr.sub 4 7 (by decide),rfl⟩
      | (show (aD a i.toNat).length+3≤maxLen;simp only [maxLen];omega)
      | (show ((aD a i.toNat).length+3) * 8≤140737488355328;omega)
      | (refine resB (jdQ ?_ hok.symm)
         have hbad:bK ((rds a).getD i.toNat [])=false:=by first|exact badRd wr hb ‹_›|exact ns ‹_› ‹_›
         unfold bo
         rw [gU h1 hi hbad,jcY])
      | (have hgd:bK ((rds a).getD i.toNat [])=true:=by
          refine tN wr hb (by assumption) ?_
          first
           | (left;simpa using ‹(_ != (1:Int))=false›)
           | (right;simpa using ‹(_ != (6:Int))=false›)
         refine ⟨(rds a).length - (i+1).toNat,by omega,i+1,?_,by omega,by omega,rfl,gV h1 hi h4 hgd⟩
         exact oe (fun r z=>([.ptr 1 1 0,.val false [.sl true 3 r],.val false [.i .i64 z]],[(1,(rowC cO a).map fun c=>.val false [c])])) (gD h1 hi) (aE h1 hi lr)))
  | skip
 have he:i.toNat=(rds a).length:=by
  have:¬ i < ((rds a).length:Int):=jcv (by assumption)
  omega
 rw [he,jdd] at h4
 rw [he] at hli
 rw [he]
 have hln:(aD a (rds a).length).length≤maxLen:=by simp only [maxLen];omega
 refine am (Q:=_) [1,3,6] [1] (fun n q=>∃ k:Int,q=([.ptr 1 1 0,.val false [.sl true 3 (aD a (rds a).length)],.val false [.i .i64 k]],[(1,(rowC cO a).map fun c=>.val false [c])])∧0≤k∧k≤(aD a (rds a).length).length∧n=(aD a (rds a).length).length - k.toNat∧((aD a (rds a).length).take k.toNat).all bW=true) ?_ ?_
 · exact ⟨rfl,(aD a (rds a).length).length - 0,0,rfl,by omega,by omega,rfl,rfl⟩
 rintro n q ⟨k,rfl,k1,k2,k3,k4⟩
 repeat' first
  | (refine And.intro ?_ ?_)
  | (intro h;cases h)
  | (intro h;rw [h])
  | (intro h)
 all_goals first
  | exact True.intro
  | exact rfl
  | exact Or.inr rfl
  | omega
  | exact jck ‹_›
  | exact ⟨a,wa,rfl⟩
  | exact ⟨_,rfl⟩
  | (have hk:k < ((aD a (rds a).length).length:Int):=jck ‹decide (k < ((aD a (rds a).length).length:Int))=true›
     first
      | omega
      | (refine resB (jdQ ?_ hok.symm)
         have hA:=gU (p:=bW) k1 hk (by simpa [bW] using ‹(!inR _ (-1000000000) 1000000000)=true›)
         unfold bo
         rw [hA,jcY,jcT])
      | exact ⟨(aD a (rds a).length).length - (k+1).toNat,by omega,k+1,congrArg (fun z:Int=>(([.ptr 1 1 0,.val false [.sl true 3 (aD a (rds a).length)],.val false [.i .i64 z]],[(1,(rowC cO a).map fun c=>.val false [c])]):Snap)) (aE k1 hk hln),by omega,by omega,rfl,gV k1 hk k4 (by simpa [bW] using ‹(!inR _ (-1000000000) 1000000000)=false›)⟩)
  | (have hA:=o8 k1 k2 (by assumption) k4
     refine resB (jdQ ?_ hok.symm)
     unfold bo
     rw [h4,hA,jc6,jc6]
     exact congrArg okOp hrow)
theorem vU {p:List D→Bool} {rows:List (List D)} {i:Int} (h0:0≤i) (hi:i < rows.length):(rows.take (i+1).toNat).all p=((rows.take i.toNat).all p && p (rows.getD i.toNat [])):=by
 have e:(i+1).toNat=i.toNat+1:=by omega
 rw [e,jdj,fD h0 hi,jem]
 simp
theorem jaE (f:List (List D)→Bool→Int→Snap) {r r' : List (List D)} {x x' : Bool} {a b:Int} (h:r=r') (h1:x=x') (h2:a=b):f r x a=f r' x' b:=by rw [h,h1,h2]
theorem flag1 {b y z:Bool} (h:(b || !y)=true):true=(b || !(y && z)):=by revert h;cases b <;> cases y <;> cases z <;> simp
theorem flag2 {b y z:Bool} (h:(b || !y)=false):(!z)=(b || !(y && z)):=by revert h;cases b <;> cases y <;> cases z <;> simp
theorem ok23:FOk Tryz.prog T 23 (ww 9):=by
 refine fokB (env:=envL [(54,iU),(17,cr)]) (N:=36) tabT (aa ok54 (aa ok17 ae)) mixed Tryz.func23 rfl Tryz.call23 Tryz.ntmps23 ?_
 rintro cs args ⟨ws,nums,b,hl,he⟩ hwf
 simp only [jcK,SV.tup.injEq,jcO,true_and,and_true] at he
 obtain ⟨rfl,rfl⟩:=he
 have wa:WfD T (.l 3) (.l nums):=arg0 hwf (jcC _)
 have la:=wa.len
 clear hwf
 refine ⟨by simp,?_⟩
 rw [Tryz.results23]
 repeat' first
  | (refine And.intro ?_ ?_)
  | (intro h;cases h)
  | (intro h;rw [h])
  | (intro h)
 all_goals first
  | skip
 refine am (Q:=_) [0,6,7,8] [36] (fun n q=>∃ i:Int,q=([.ptr 36 0 0,argS 3 nums,.val false [.i .i64 (nums.length:Int)],.val false [.i .i64 i]],[(0,[.val false [.sl true 9 (ws++(nums.take (i).toNat).map rowW)],.val false [.b (b || !((nums.take (i).toNat).all bW))]])])∧0≤i∧i≤nums.length∧n=nums.length - i.toNat) ?_ ?_
 · refine ⟨rfl,nums.length - 0,0,?_,by omega,by omega,rfl⟩
   have h1:ws++(nums.take (0:Int).toNat).map rowW=ws:=by simp
   have h2:(b || !((nums.take (0:Int).toNat).all bW))=b:=by simp
   rw [h1,h2]
   rfl
 rintro n q ⟨i,rfl,h1,h2,h3⟩
 repeat' first
  | (refine And.intro ?_ ?_)
  | (intro h;cases h)
  | (intro h;rw [h])
  | (intro h)
 all_goals first
  | (show av _=true;kernel_rfl)
  | (show aX _ _=true;kernel_rfl)
  | exact True.intro
  | exact rfl
  | exact Or.inl rfl
  | omega
  | exact jck ‹_›
  | exact ⟨_,rfl⟩
  | (have hi:i < (nums.length:Int):=jck ‹decide (i < (nums.length:Int))=true›
     have hln:(ws++(nums.take i.toNat).map rowW).length=ws.length+i.toNat:=by rw [jcm,jcw,jcD,jdz (by omega)]
     first
      | (rw [hln];show ws.length+i.toNat+1≤maxLen;simp only [maxLen];omega)
      | (rw [hln];show (ws.length+i.toNat+1) * 16≤140737488355328;omega)
      | (refine ⟨nums.length - (i+1).toNat,by omega,i+1,?_,by omega,by omega,rfl⟩
         exact jaE (fun r x z=>([.ptr 36 0 0,argS 3 nums,.val false [.i .i64 (nums.length:Int)],.val false [.i .i64 z]],[(0,[.val false [.sl true 9 r],.val false [.b x]])])) (by rw [mb h1 hi,jc0];rfl) (by rw [vU h1 hi];first|exact flag1 ‹_›|exact flag2 ‹_›) (aE h1 hi la)))
  | (have he:i.toNat=nums.length:=by
      have:¬ i < (nums.length:Int):=jcv (by assumption)
      omega
     simp only [he,jdd]
     rfl)
theorem ok24:FOk Tryz.prog T 24 (rJ 9):=by
 refine fokB (env:=envL [(55,uY)]) (N:=24) tabT (aa ok55 ae) mixed Tryz.func24 rfl Tryz.call24 Tryz.ntmps24 ?_
 rintro cs args ⟨ws,txts,b,hl,hsz,he⟩ hwf
 simp only [jcK,SV.tup.injEq,jcO,true_and,and_true] at he
 obtain ⟨rfl,rfl⟩:=he
 have wa:WfD T (.l 9) (.l txts):=arg0 hwf (jcC _)
 have la:=wa.len
 clear hwf
 refine ⟨by simp,?_⟩
 rw [Tryz.results24]
 repeat' first
  | (refine And.intro ?_ ?_)
  | (intro h;cases h)
  | (intro h;rw [h])
  | (intro h)
 all_goals first
  | skip
 refine am (Q:=_) [0,6,7,8] [24] (fun n q=>∃ i:Int,q=([.ptr 24 0 0,argS 9 txts,.val false [.i .i64 (txts.length:Int)],.val false [.i .i64 i]],[(0,[.val false [.sl true 9 (ws++(txts.take (i).toNat).map rowE)],.val false [.b b]])])∧0≤i∧i≤txts.length∧n=txts.length - i.toNat) ?_ ?_
 · refine ⟨rfl,txts.length - 0,0,?_,by omega,by omega,rfl⟩
   have h1:ws++(txts.take (0:Int).toNat).map rowE=ws:=by simp
   rw [h1]
   rfl
 rintro n q ⟨i,rfl,h1,h2,h3⟩
 repeat' first
  | (refine And.intro ?_ ?_)
  | (intro h;cases h)
  | (intro h;rw [h])
  | (intro h)
 all_goals first
  | (show av _=true;kernel_rfl)
  | (show aX _ _=true;kernel_rfl)
  | exact True.intro
  | exact rfl
  | exact Or.inl rfl
  | omega
  | exact jck ‹_›
  | (have hi:i < (txts.length:Int):=jck ‹decide (i < (txts.length:Int))=true›
     have hln:(ws++(txts.take i.toNat).map rowE).length=ws.length+i.toNat:=by rw [jcm,jcw,jcD,jdz (by omega)]
     first
      | exact ⟨_,hsz i.toNat (by omega),rfl⟩
      | (rw [hln];show ws.length+i.toNat+1≤maxLen;simp only [maxLen];omega)
      | (rw [hln];show (ws.length+i.toNat+1) * 16≤140737488355328;omega)
      | (refine ⟨txts.length - (i+1).toNat,by omega,i+1,?_,by omega,by omega,rfl⟩
         exact oe (fun r z=>([.ptr 24 0 0,argS 9 txts,.val false [.i .i64 (txts.length:Int)],.val false [.i .i64 z]],[(0,[.val false [.sl true 9 r],.val false [.b b]])])) (by rw [mb h1 hi,jc0];rfl) (aE h1 hi la)))
  | (have he:i.toNat=txts.length:=by
      have:¬ i < (txts.length:Int):=jcv (by assumption)
      omega
     simp only [he,jdd]
     rfl)
theorem jT {a:List D} (h:bo a=true):aL a=bg (strsOf (aK a (rds a).length)) ⟨#[32]⟩:=if_pos h
theorem fp {a:List D} (h:bo a=false):aL a=⟨#[]⟩:=if_neg (by rw [h];decide)
theorem ok19:FOk Tryz.prog T 19 (rQ T cO):=by
 refine fok (env:=envL [(48,(wG T cO)),(49,(rR T cO)),(20,cr),(50,uY),(51,(kL T cV)),(52,spJoin)]) (N:=93) tabT (aa ok48 (aa ok49 (aa ok20 (aa ok50 (aa ok51 (aa ok52 ae)))))) mixed Tryz.func19 rfl Tryz.call19 Tryz.ntmps19 ?_
 rintro args ⟨a,wa,hs,rfl⟩ hwf
 have hs1:=hs.1
 have hs2:=hs.2.1
 have hs3:=hs.2.2.1
 have hs4:=hs.2.2.2
 have hl:=bU a
 have hl1:=aP a
 have hl2:=c7 a
 have wR:WfD T (.l 59) (.l (rds a)):=wa.rows (j:=16) rfl
 have lr:=wR.len
 refine ⟨by simp,?_⟩
 rw [Tryz.results19]
 clear hwf
 have hrow:csD (rowC cO a)=a:=aw wa
 have hok:aL (csD (rowC cO a))=aL a:=by rw [aw wa]
 repeat' first
  | (refine And.intro ?_ ?_)
  | (intro h;cases h)
  | (intro h;rw [h])
  | (intro h)
 all_goals first
  | exact True.intro
  | exact Or.inr rfl
  | exact ⟨a,wa,hs,rfl⟩
  | (refine resS (jdQ ?_ hok.symm)
     have hg:(!bo (csD (rowC cO a)))=true:=by assumption
     rw [hrow] at hg
     exact (fp (by simpa using hg)).symm)
  | skip
 have hg:bo a=true:=by
  have hg:(!bo (csD (rowC cO a)))=false:=by assumption
  rw [hrow] at hg
  simpa using hg
 have hgr:=hg
 simp only [bo,jcx] at hgr
 refine am (Q:=_) [1,3,4,5] [1] (fun n q=>∃ i:Int,q=([.ptr 1 1 0,.val false [.sl true 9 ((bC a).take i.toNat |>.map rowW)],.val false [.sl true 3 (bC a)],.val false [.i .i64 i]],[(1,(rowC cO a).map fun c=>.val false [c])])∧0≤i∧i≤(bC a).length∧n=(bC a).length - i.toNat) ?_ ?_
 · refine ⟨rfl,(bC a).length - 0,0,?_,by omega,by omega,rfl⟩
   have hn:bC (csD (rowC cO a))=bC a:=by rw [hrow]
   rw [← hn]
   rfl
 rintro n q ⟨i,rfl,h1,h2,h3⟩
 have hmx:(bC a).length≤maxLen:=by simp only [maxLen];omega
 repeat' first
  | (refine And.intro ?_ ?_)
  | (intro h;cases h)
  | (intro h;rw [h])
  | (intro h)
 all_goals first
  | (show av _=true;kernel_rfl)
  | (show aX _ _=true;kernel_rfl)
  | exact rfl
  | omega
  | exact jck ‹_›
  | exact ⟨_,rfl⟩
  | (have hi:i < ((bC a).length:Int):=jck ‹decide (i < ((bC a).length:Int))=true›
     have hln:((bC a).take i.toNat |>.map rowW).length=i.toNat:=by rw [jcw,jcD,jdz (by omega)]
     first
      | omega
      | (rw [hln];show i.toNat+1≤maxLen;simp only [maxLen];omega)
      | (rw [hln];show (i.toNat+1) * 16≤140737488355328;omega)
      | (refine ⟨(bC a).length - (i+1).toNat,by omega,i+1,?_,by omega,by omega,rfl⟩
         exact oe (fun r z=>([.ptr 1 1 0,.val false [.sl true 9 r],.val false [.sl true 3 (bC a)],.val false [.i .i64 z]],[(1,(rowC cO a).map fun c=>.val false [c])])) (by rw [mb h1 hi];rfl) (aE h1 hi hmx)))
  | exact ⟨_,jcr hs3.1 (by decide),rfl⟩
  | exact ⟨_,jcr hs3.2.1 (by decide),rfl⟩
  | exact ⟨_,jcr hs3.2.2.1 (by decide),rfl⟩
  | exact ⟨_,jcr hs3.2.2.2 (by decide),rfl⟩
  | (have hln:((bC a).take i.toNat |>.map rowW).length=i.toNat:=by rw [jcw,jcD,jdz (by omega)]
     have h2' : i.toNat≤1048585:=by omega
     clear h1 h2 h3
     first
      | (rw [hln];show i.toNat+4≤maxLen;simp only [maxLen];omega)
      | (rw [hln];show (i.toNat+4) * 16≤140737488355328;omega)
      | (rw [jcm,hln];show i.toNat+4+3≤maxLen;simp only [maxLen];omega)
      | (rw [jcm,hln];show (i.toNat+4+3) * 16≤140737488355328;omega))
  | skip
 have he:i.toNat=(bC a).length:=by
  have:¬ i < ((bC a).length:Int):=jcv (by assumption)
  omega
 rw [he,jdd]
 clear h1 h2 h3 he
 refine am (Q:=_) [1,3,6] [1] (fun n q=>∃ i:Int,q=([.ptr 1 1 0,.val false [.sl true 9 (aK a i.toNat)],.val false [.i .i64 i]],[(1,(rowC cO a).map fun c=>.val false [c])])∧0≤i∧i≤(rds a).length∧n=(rds a).length - i.toNat) ?_ ?_
 · refine ⟨rfl,(rds a).length - 0,0,?_,by omega,by omega,rfl⟩
   have h0:aK a (0:Int).toNat=dl a:=by simp [aK]
   rw [h0]
   rfl
 rintro n q ⟨i,rfl,h1,h2,h3⟩
 have hli:=bu (a:=a) (i:=i.toNat) (by omega)
 repeat' first
  | (refine And.intro ?_ ?_)
  | (intro h;cases h)
  | (intro h;rw [h])
  | (intro h)
 all_goals first
  | (show av _=true;kernel_rfl)
  | (show aX _ _=true;kernel_rfl)
  | exact True.intro
  | exact rfl
  | exact Or.inr rfl
  | omega
  | exact jck ‹_›
  | exact ⟨_,rfl⟩
  | (have hi:i < ((rds a).length:Int):=jck ‹decide (i < ((rds a).length:Int))=true›
     have wr:WfRow T [.i .i64,.i .i64,.i .i64,.s,.i .i64,.i .i64,.i .i64,.s,.l 57,.l 9,.l 101] ((rds a).getD i.toNat []):=wR.row rfl (by omega)
     have hb:=hs4 i.toNat (by omega)
     have hgi:bK ((rds a).getD i.toNat [])=true:=jcH.1 hgr.1 _ (jcE (fD h1 hi))
     first
      | exact ⟨_,jcr hb.1 (by decide),rfl⟩
      | exact ⟨_,wr.sub 4 7 (by decide),⟨jcr hb.2 (by decide),b8 hgi,cS hgi⟩,rfl⟩
      | (have hf:bD (csD (rowC cV (sub ((rds a).getD i.toNat []) 4 7)))=bD (sub ((rds a).getD i.toNat []) 4 7):=congrArg bD (aw (wr.sub 4 7 (by decide)))
         have hz:(bD (csD (rowC cV (sub ((rds a).getD i.toNat []) 4 7)))).size≤70368744177664:=by rw [hf];exact jcr (dT (cS hgi) (b8 hgi)) (by decide)
         first
          | exact ⟨_,hz,rfl⟩
          | (rw [hli];show (a.getD 3 default).rows.length+16+5 * i.toNat+5≤maxLen;simp only [maxLen];omega)
          | (rw [hli];show ((a.getD 3 default).rows.length+16+5 * i.toNat+5) * 16≤140737488355328;omega)
          | (refine ⟨(rds a).length - (i+1).toNat,by omega,i+1,?_,by omega,by omega,rfl⟩
             exact oe (fun r z=>([.ptr 1 1 0,.val false [.sl true 9 r],.val false [.i .i64 z]],[(1,(rowC cO a).map fun c=>.val false [c])])) (by rw [← fF h1 hi,bj, ← hf];rfl) (aE h1 hi lr))))
  | (have he:i.toNat=(rds a).length:=by
      have:¬ i < ((rds a).length:Int):=jcv (by assumption)
      omega
     rw [he] at hli ⊢
     first
      | exact ⟨_,_,by omega,fW hs hg,rfl⟩
      | exact resS (jdQ (jT hg).symm hok.symm))
theorem jb5 {r:List D} (wr:WfRow T [.i .i64,.i .i64,.i .i64,.s,.i .i64,.i .i64,.i .i64,.s,.l 57,.l 9,.l 101] r) (h:(!svOk [argG cV (sub r 4 7)])=true):bK r=false:=by
 have he:svOk [argG cV (sub r 4 7)]=okVal (sub r 4 7):=congrArg okVal (aw (wr.sub 4 7 (by decide)))
 rw [he] at h
 unfold bK
 rw [show okVal (sub r 4 7)=false by simpa using h,jcT]
theorem qR {r:List D} (wr:WfRow T [.i .i64,.i .i64,.i .i64,.s,.i .i64,.i .i64,.i .i64,.s,.l 57,.l 9,.l 101] r) (h:(!svOk [argG cV (sub r 4 7)])=false) (hk:(r.getD 4 default).int=1∨(r.getD 4 default).int=6):bK r=true:=by
 have he:svOk [argG cV (sub r 4 7)]=okVal (sub r 4 7):=congrArg okVal (aw (wr.sub 4 7 (by decide)))
 rw [he] at h
 unfold bK
 rw [show okVal (sub r 4 7)=true by simpa using h,jc4]
 rcases hk with h1|h6
 · rw [h1];rfl
 · rw [h6];rfl
theorem ok8:FOk Tryz.prog T 8 (rQ T cO):=by
 have hE:gc Tryz.prog T (envL [(22,(spOp T cO)),(23,(ww 9)),(24,(rJ 9)),(25,sp25),(26,(kL T cV)),(27,spJoin)]):=(aa ok22 (aa ok23 (aa ok24 (aa ok25 (aa ok26 (aa ok27 ae))))))
 refine jbD (N:=116) tabT Tryz.func8 rfl Tryz.call8 Tryz.ntmps8 rfl ?_
 rintro args ⟨a,wa,hs,rfl⟩ hwf
 have hs1:=hs.1
 have hs2:=hs.2.1
 have hs3:=hs.2.2.1
 have hs4:=hs.2.2.2
 have hl:=bU a
 have hl1:=aP a
 have hl2:=c7 a
 have wR:WfD T (.l 59) (.l (rds a)):=wa.rows (j:=16) rfl
 have lr:=wR.len
 refine ⟨by simp,?_⟩
 rw [Tryz.results8]
 clear hwf
 have hrow:csD (rowC cO a)=a:=aw wa
 have hok:aL (csD (rowC cO a))=aL a:=by rw [aw wa]
 have hok2:okOp (csD (rowC cO a))=okOp a:=by rw [aw wa]
 refine Snd.cut2 tabT hE mixed [1] [1] (fun q=>q=([.ptr 1 1 0],[(1,(rowC cO a).map fun c=>.val false [c])])∧okOp a=true) ?_ ?_
 · repeat' first
    | (refine And.intro ?_ ?_)
    | (intro h;cases h)
    | (intro h;rw [h])
    | (intro h)
   all_goals first
    | exact True.intro
    | exact rfl
    | exact Or.inr rfl
    | exact ⟨a,wa,rfl⟩
    | (refine resS (jdQ ?_ hok.symm)
       have hg:(!okOp (csD (rowC cO a)))=true:=by assumption
       rw [hok2] at hg
       have hg:bo a=false:=by unfold bo;rw [show okOp a=false by simpa using hg,jcT,jcT]
       exact (fp hg).symm)
    | (have hg:(!okOp (csD (rowC cO a)))=false:=by assumption
       rw [hok2] at hg
       simpa using hg)
 rintro q ⟨rfl,hop⟩
 refine Snd.cut2 tabT hE mixed [1,3] [1,11] (fun q=>q=([.ptr 1 1 0,.ptr 11 1 0],[(1,(rowC cO a).map fun c=>.val false [c]),(1,[.val false [.sl true 9 ((ints a [0,1,2]).map rowW)],.val false [.b (!(ints a [0,1,2]).all bW)]])])) ?_ ?_
 · repeat' first
    | (refine And.intro ?_ ?_)
    | (intro h;cases h)
    | (intro h;rw [h])
    | (intro h)
   all_goals first
    | exact rfl
    | (refine ⟨_,_,_,?_,rfl⟩;first|(simp only [jcm,jcw,jcz,jcI,ints,aP];omega)|(simp only [jcm,jcw,jcz,jcI,ints,aP,Nat.reduceAdd];omega)|(show (3+(a.getD 3 default).rows.length) * 16≤140737488355328;omega))
 rintro q rfl
 refine Snd.cut2 tabT hE mixed [1,3,4] [1,11,4] (fun q=>q=([.ptr 1 1 0,.ptr 11 1 0,.ptr 4 1 0],[(1,(rowC cO a).map fun c=>.val false [c]),(1,[.val false [.sl true 9 ((ints a [0,1,2]).map rowW++(a.getD 3 default).rows.map rowW)],.val false [.b (!(ints a [0,1,2]).all bW || !(a.getD 3 default).rows.all bW)]]),(1,(rowC [.i .i64,.i .i64,.i .i64,.s,.s,.i .i64] (sub a 6 6)).map fun c=>.val false [c])])) ?_ ?_
 · repeat' first
    | (refine And.intro ?_ ?_)
    | (intro h;cases h)
    | (intro h;rw [h])
    | (intro h)
   all_goals first
    | exact rfl
    | (refine ⟨_,_,_,?_,rfl⟩;first|(simp only [jcm,jcw,jcz,jcI,ints,aP];omega)|(simp only [jcm,jcw,jcz,jcI,ints,aP,Nat.reduceAdd];omega)|(show (3+(a.getD 3 default).rows.length) * 16≤140737488355328;omega))
 rintro q rfl
 refine Snd.cut2 tabT hE mixed [1,3] [1,11] (fun q=>q=([.ptr 1 1 0,.ptr 11 1 0],[(1,(rowC cO a).map fun c=>.val false [c]),(1,[.val false [.sl true 9 ((ints a [0,1,2]).map rowW++(a.getD 3 default).rows.map rowW++(ints a [4,5,6,7,8,11]).map rowW++[encW (a.getD 9 default).str,encW (a.getD 10 default).str,encW (a.getD 12 default).str,encW (a.getD 13 default).str])],.val false [.b (!(ints a [0,1,2]).all bW || !(a.getD 3 default).rows.all bW || !(ints a [4,5,6,7,8,11]).all bW)]])])) ?_ ?_
 · repeat' first
    | (refine And.intro ?_ ?_)
    | (intro h;cases h)
    | (intro h;rw [h])
    | (intro h)
   all_goals first
    | exact rfl
    | (refine ⟨_,_,_,?_,rfl⟩;first|(simp only [jcm,jcw,jcz,jcI,ints,aP];omega)|(simp only [jcm,jcw,jcz,jcI,ints,aP,Nat.reduceAdd];omega)|(show (3+(a.getD 3 default).rows.length) * 16≤140737488355328;omega))
    | (refine ⟨_,_,_,?_,txt4 (jcr hs3.1 (by decide)) (jcr hs3.2.1 (by decide)) (jcr hs3.2.2.1 (by decide)) (jcr hs3.2.2.2 (by decide)),rfl⟩;simp only [jcm,jcw,jcz,jcI,ints];omega)
 rintro q rfl
 rw [← oz,jh,jh]
 refine Snd.cut2 tabT hE mixed [3] [11] (fun q=>q=([.ptr 11 1 0],[(1,[.val false [.sl true 9 (aK a (rds a).length)],.val false [.b (il a (rds a).length)]])])∧(rds a).all bK=true) ?_ ?_
 · repeat' first
    | (refine And.intro ?_ ?_)
    | (intro h;cases h)
    | (intro h;rw [h])
    | (intro h)
   all_goals first
    | exact rfl
    | (refine ⟨_,_,_,?_,rfl⟩;first|(simp only [jcm,jcw,jcz,jcI,ints,aP];omega)|(simp only [jcm,jcw,jcz,jcI,ints,aP,Nat.reduceAdd];omega)|(show (3+(a.getD 3 default).rows.length) * 16≤140737488355328;omega))
    | skip
   refine am (Q:=_) [3,67,68,69] [11] (fun n q=>∃ i:Int,q=([.ptr 11 1 0,argS 59 (rds a),.val false [.i .i64 ((rds a).length:Int)],.val false [.i .i64 i]],[(1,[.val false [.sl true 9 (aK a (i).toNat)],.val false [.b (il a (i).toNat)]])])∧0≤i∧i≤(rds a).length∧n=(rds a).length - i.toNat∧((rds a).take i.toNat).all bK=true) ?_ ?_
   · refine ⟨rfl,(rds a).length - 0,0,?_,by omega,by omega,rfl,rfl⟩
     have h0:aK a (0:Int).toNat=dl a:=by simp [aK]
     have h0' : il a (0:Int).toNat=il a 0:=rfl
     rw [h0,h0', ← qL hs2]
     rfl
   rintro n q ⟨i,rfl,h1,h2,h3,h4⟩
   have hli:=bu (a:=a) (i:=i.toNat) (by omega)
   repeat' first
    | (refine And.intro ?_ ?_)
    | (intro h;cases h)
    | (intro h;rw [h])
    | (intro h)
   all_goals first
    | (show av _=true;kernel_rfl)
    | (show aX _ _=true;kernel_rfl)
    | exact True.intro
    | exact rfl
    | exact Or.inr rfl
    | omega
    | exact jck ‹_›
    | (have hi:i < ((rds a).length:Int):=jck ‹decide (i < ((rds a).length:Int))=true›
       have wr:WfRow T [.i .i64,.i .i64,.i .i64,.s,.i .i64,.i .i64,.i .i64,.s,.l 57,.l 9,.l 101] ((rds a).getD i.toNat []):=wR.row rfl (by omega)
       have hb:=hs4 i.toNat (by omega)
       first
        | (refine ⟨sub ((rds a).getD i.toNat []) 4 7,wr.sub 4 7 (by decide),jcr hb.2 (by decide),?_,rfl⟩
           first
            | (left;simpa using ‹(_ != (1:Int))=false›)
            | (right;simpa using ‹(_ != (6:Int))=false›))
        | (refine resS (jdQ ?_ hok.symm)
           have hbad:bK ((rds a).getD i.toNat [])=false:=by first|exact ns ‹_› ‹_›|exact jb5 wr ‹_›
           have hg:bo a=false:=by unfold bo;rw [gU h1 hi hbad,jcY]
           exact (fp hg).symm)
        | (refine ⟨_,_,_,?_,rfl⟩
           rw [hli]
           show ((a.getD 3 default).rows.length+16+5 * i.toNat+3) * 16≤140737488355328
           omega)
        | (have hgi:bK ((rds a).getD i.toNat [])=true:=by
            refine qR wr (by assumption) ?_
            first
             | (left;simpa using ‹(_ != (1:Int))=false›)
             | (right;simpa using ‹(_ != (6:Int))=false›)
           have hf:bD (csD (rowC cV (sub ((rds a).getD i.toNat []) 4 7)))=bD (sub ((rds a).getD i.toNat []) 4 7):=congrArg bD (aw (wr.sub 4 7 (by decide)))
           have hz:(bD (csD (rowC cV (sub ((rds a).getD i.toNat []) 4 7)))).size≤70368744177664:=by rw [hf];exact jcr (dT (cS hgi) (b8 hgi)) (by decide)
           first
            | exact ⟨_,wr.sub 4 7 (by decide),⟨jcr hb.2 (by decide),b8 hgi,cS hgi⟩,rfl⟩
            | (refine ⟨_,_,_,?_,txt2 (jcr hb.1 (by decide)) hz,rfl⟩
               rw [jcm,jcw,hli]
               show ((a.getD 3 default).rows.length+16+5 * i.toNat+3+2) * 16≤140737488355328
               omega)
            | (refine ⟨(rds a).length - (i+1).toNat,by omega,i+1,?_,by omega,by omega,rfl,gV h1 hi h4 hgi⟩
               exact jaE (fun r x z=>([.ptr 11 1 0,argS 59 (rds a),.val false [.i .i64 ((rds a).length:Int)],.val false [.i .i64 z]],[(1,[.val false [.sl true 9 (r)],.val false [.b (x)]])])) (by rw [← fF h1 hi,bj, ← hf,jc0];rfl) (by rw [← qM h1 hi];rfl) (aE h1 hi lr))))
    | (have he:i.toNat=(rds a).length:=by
        have:¬ i < ((rds a).length:Int):=jcv (by assumption)
        omega
       first
        | (rw [he,jdd] at h4;exact h4)
        | (rw [he];rfl))
 rintro q ⟨rfl,hall⟩
 refine Snd.of_awp tabT hE mixed ?_
 repeat' first
  | (refine And.intro ?_ ?_)
  | (intro h;cases h)
  | (intro h;rw [h])
  | (intro h)
 all_goals first
  | exact True.intro
  | exact Or.inr rfl
  | (have hf:il a (rds a).length=true:=by assumption
     have hg:bo a=false:=by
      unfold bo
      rw [show (aD a (rds a).length).all bW=false by simpa [il] using hf,jcY,jcT]
     exact resS (jdQ (fp hg).symm hok.symm))
  | (have hf:il a (rds a).length=false:=by assumption
     have hg:bo a=true:=by
      unfold bo
      rw [hall,show (aD a (rds a).length).all bW=true by simpa [il] using hf,hop]
      rfl
     have hln:=bu (a:=a) (jcA (rds a).length)
     first
      | exact ⟨_,_,by omega,fW hs hg,rfl⟩
      | exact resS (jdQ (jT hg).symm hok.symm))
end Go.Proofs.YtcllpknipmcolaaGreatDoor.Ab
