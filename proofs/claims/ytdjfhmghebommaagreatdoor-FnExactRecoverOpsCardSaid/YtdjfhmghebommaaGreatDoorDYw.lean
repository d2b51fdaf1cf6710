/- A part. -/
import Derived.Test.YtdjfhmghebommaaGreatDoorDYl
namespace Go.Proofs.YtdjfhmghebommaaGreatDoor.Ab
open Go.RowKit
set_option linter.all false
set_option maxRecDepth 100000
set_option maxHeartbeats 2000000
theorem xk132:FOk Tryz.prog T 132 sd:=yE Tryz.call132 Tryz.strings_HasPrefix
theorem xh:FOk Tryz.prog T 136 jW:=yC Tryz.call136 Tryz.strings_IndexByte
theorem xk135:FOk Tryz.prog T 135 (qB cV vNum):=by
 refine fok (env:=envL []) (N:=5) tabT af mixed Tryz.func135 rfl Tryz.call135 Tryz.ntmps135 ?_
 rintro args ⟨n,rfl⟩ hwf
 refine ⟨by simp,?_⟩
 clear hwf
 rw [Tryz.results135]
 repeat' first
  | refine And.intro ?_ ?_
  | (intro h;simp only [reduceCtorEq] at h;done)
  | (intro h;rw [h])
  | intro h
 all_goals first
  | (show aa _=true;kernel_rfl)|(show am _ _=true;kernel_rfl)|exact True.intro|exact Or.inr rfl|exact Or.inl rfl
  | exact rfl
  | skip
theorem yW:FOk Tryz.prog T 137 (sa cV vTxt):=by
 refine fok (env:=envL []) (N:=5) tabT af mixed Tryz.func137 rfl Tryz.call137 Tryz.ntmps137 ?_
 rintro args ⟨t,rfl⟩ hwf
 refine ⟨by simp,?_⟩
 clear hwf
 rw [Tryz.results137]
 repeat' first
  | refine And.intro ?_ ?_
  | (intro h;simp only [reduceCtorEq] at h;done)
  | (intro h;rw [h])
  | intro h
 all_goals first
  | (show aa _=true;kernel_rfl)|(show am _ _=true;kernel_rfl)|exact True.intro|exact Or.inr rfl|exact Or.inl rfl
  | exact rfl
  | skip
theorem xk95:FOk Tryz.prog T 95 (jV):=by
 refine fokB (env:=envL [(132,sd)]) (N:=27) tabT (ac xk132 af) mixed Tryz.func95 rfl Tryz.call95 Tryz.ntmps95 ?_
 rintro cs args ⟨s,w,k,b,hp,hw,he⟩ hwf
 simp only [jce,SV.tup.injEq,jci,true_and,and_true] at he
 obtain ⟨rfl,rfl⟩:=he
 obtain ⟨hz,h0,h1⟩:=id hp
 obtain ⟨k,rfl⟩:=jcP h0
 have hk:k≤s.size:=by omega
 have hy:=posK hp (w.size:Int) (by omega) (by omega)
 refine ⟨by simp,?_⟩
 clear hwf
 rw [Tryz.results95]
 repeat' first
  | refine And.intro ?_ ?_
  | (intro h;simp only [reduceCtorEq] at h;done)
  | (intro h;rw [h])
  | intro h
 all_goals first
  | (show aa _=true;kernel_rfl)|(show am _ _=true;kernel_rfl)|exact True.intro|exact Or.inr rfl|exact Or.inl rfl
  | with_reducible exact jb2 _
  | (show (k:Int)≤(s.size:Int);omega)
  | exact jcz _
  | exact ⟨_,_,rfl⟩
  | (have hz:(!stB s (k:Int) w)=true:=by rw [← sZ hk];assumption
     first
      | exact resB (aY hz).symm
      | exact updR (tk_no hz) rfl)
  | (have hz:(!stB s (k:Int) w)=false:=by rw [← sZ hk];assumption
     first
      | exact resB (aA hz).symm
      | exact updR (hy.trans (zF hz)) rfl)
  | skip
theorem xk98:FOk Tryz.prog T 98 (spRd cV (fun _ _ _=>True) aW):=by
 refine fokB (env:=envL [(134,(ou (-999999999999) 999999999999)),(135,(qB cV vNum))]) (N:=89) tabT (ac ok134 (ac xk135 af)) mixed Tryz.func98 rfl Tryz.call98 Tryz.ntmps98 ?_
 rintro cs args ⟨s,k,b,hp,_,he⟩ hwf
 simp only [jce,SV.tup.injEq,jci,true_and,and_true] at he
 obtain ⟨rfl,rfl⟩:=he
 obtain ⟨hz,h0,h1⟩:=id hp
 obtain ⟨k,rfl⟩:=jcP h0
 have hk:k≤s.size:=by omega
 refine ⟨by simp,?_⟩
 clear hwf
 rw [Tryz.results98]
 repeat' first
  | refine And.intro ?_ ?_
  | (intro h;simp only [reduceCtorEq] at h;done)
  | (intro h;rw [h])
  | intro h
 all_goals first
  | (show aa _=true;kernel_rfl)|(show am _ _=true;kernel_rfl)|exact True.intro|exact Or.inr rfl|exact Or.inl rfl
  | skip
 refine ap (Q:=_) [0,2,3] [89,2] (fun m st=>∃ j:Nat,st=([.ptr 89 0 0,.ptr 2 1 0,iArg (k:Int)],[(0,[.val false [.s s],.val false [.i .i64 (j:Int)],.val false [.b b]]),(1,[.val false [.i .i64 0],.val false [.i .i64 0],.val false [.i .i64 0],.val false [.s ByteArray.empty],.val false [.sl true 53 []],.val false [.sl true 9 []],.val false [.sl true 126 []]])])∧k≤j∧j≤s.size∧runB mdB s j=cL s (k:Int)∧m=s.size - j) ?_ ?_
 · exact ⟨rfl,s.size - k,k,rfl,jb4 _,hk,rfl,rfl⟩
 rintro m st ⟨j,rfl,j0,j1,jr,rfl⟩
 repeat' first
  | refine And.intro ?_ ?_
  | (intro h;simp only [reduceCtorEq] at h;done)
  | (intro h;rw [h])
  | intro h
 all_goals first
  | (show aa _=true;kernel_rfl)|(show am _ _=true;kernel_rfl)|exact True.intro|exact Or.inr rfl|exact Or.inl rfl
  | with_reducible exact jb2 _
  | with_reducible exact jbO (by with_reducible assumption)
  | (show aT _ _;exact rfl)
  | (have hj:j < s.size:=ltN (by with_reducible assumption)
     have hm:mdB (bAt s j)=true:=by
      first
       | exact md_1 (by assumption)
       | exact md_2 (by assumption) (by assumption)
     refine ⟨s.size - (j+1),by omega,j+1,?_,by omega,by omega,(jm hj hm).symm.trans jr,rfl⟩
     exact congrArg (fun z:Int=>(([.ptr 89 0 0,.ptr 2 1 0,iArg (k:Int)],[(0,[.val false [.s s],.val false [.i .i64 z],.val false [.b b]]),(1,[.val false [.i .i64 0],.val false [.i .i64 0],.val false [.i .i64 0],.val false [.s ByteArray.empty],.val false [.sl true 53 []],.val false [.sl true 9 []],.val false [.sl true 126 []]])]):Snap)) (wrapN hj (by simp only [maxLen];omega)))
  | (have je:j=cL s (k:Int):=by
      rw [← jr]
      first
       | exact (jo (nltN (by with_reducible assumption))).symm
       | exact (dc (ltN (by with_reducible assumption)) (md_3 (by assumption) (by assumption))).symm
       | exact (dc (ltN (by with_reducible assumption)) (md_4 (by assumption) (by assumption))).symm
     subst je
     first
      | (show (k:Int)≤(cL s (k:Int):Int);omega)
      | (show (cL s (k:Int):Int)≤(s.size:Int);omega)
      | (refine ⟨_,?_,rfl⟩;show (s.extract k (cL s (k:Int))).size≤_;rw [jcd];omega)
      | exact ⟨_,rfl⟩
      | exact rfl
      | (refine updR rfl ?_;show _=(b && (prsI s (k:Int)).2);rw [show b=true by assumption];rfl)
      | (refine updR rfl ?_;show _=(b && (prsI s (k:Int)).2);rw [show b=false by assumption];rfl))
  | skip
theorem pi (s:ByteArray) (k:Int) (b:Bool):WfRow T cV (aW s k b).1:=by
 refine zh ?_
 have e1:IntKind.i64.min = -9223372036854775808:=by decide
 have e2:IntKind.i64.max=9223372036854775807:=by decide
 have:-999999999999≤(prsI s k).1∧(prsI s k).1≤999999999999:=pT (lo:=-999999999999) (hi:=999999999999) (s:=s.extract k.toNat (cL s k)) (by decide) (by decide)
 rw [inK,e1,e2]
 omega
theorem vM {s:ByteArray} {k:Int} (hs:s.size≤1048576) (h0:0≤k) (h:k≤s.size) (b:Bool):WfRow T cV (if (quoP s k).2 < 0 then ((vNil,k+1,false):Rd3) else (vTxt (quoP s k).1,(quoP s k).2,b)).1:=by
 split
 · exact nY
 · refine zd ?_
   rcases cB h0 h with ⟨h1,h2⟩|⟨h1,h2,h3⟩
   · rw [h2];decide
   · simp only [maxLen];omega
theorem vO {val:Int→Bool→Rd3} {s:ByteArray} {k0:Int} {d:Nat} (hv:∀ k,k0≤k→k≤s.size→PosI s k true d (val k true)) (hw:∀ k,k0≤k→k≤s.size→WfRow T cV (val k true).1):∀ (m:Nat) (k:Int) (b:Bool) (out:List (List D)),ItI s k0 k b d out→(∀ r ∈ out,WfRow T cV r) →
 ∀ r ∈ (bz val s m k b out).1,WfRow T cV r
 | 0,_,_,_,_,ho=>ho
 | m+1,k,false,out,_,ho=>ho
 | m+1,k,true,out,h,ho=>by
   have hr:=hv k h.1 h.2.1
   have w:=hw k h.1 h.2.1
   have ho' : ∀ r ∈ out++[(val k true).1],WfRow T cV r:=by
    intro r hr
    rcases jco.1 hr with h|h
    · exact ho r h
    · rw [jcF.1 h];exact w
   rw [bz,if_neg (by decide)]
   split
   · exact ho'
   · exact vO hv hw m _ _ _ (ju h hr) ho'
theorem jG {s:ByteArray} (hs:s.size≤1048576):∀ (d:Nat),d≤100→∀ (k:Int) (b:Bool),0≤k→k≤s.size→WfRow T cV (valI s d k b).1
 | 0,_,k,b,h0,h=>by
   unfold valI
   split
   · exact vM hs h0 h b
   · exact pi s k b
 | d+1,hd,k,b,h0,h=>by
   unfold valI
   split
   · exact vM hs h0 h b
   split
   · rename_i _ hl
     have hb:=bi hl
     have e:(LBR.size:Int)=1:=rfl
     split
     · exact xo (by decide) (fun r hr=>absurd hr (jbS))
     · have i0:ItI s (k+1) (k+1) b d []:=⟨by omega,by omega,fun _=>by show ((0+0:Nat):Int)≤_;omega,by show ((0+0:Nat):Int)≤_;omega⟩
       have hi:=(iJ (val:=valI s d) (s:=s) (k0:=k+1) (d:=d) (fun j hj hs=>dP s d j true (by omega) hs) (s.size+3) (k+1) b [] i0).1
       have hw:=vO (val:=valI s d) (s:=s) (k0:=k+1) (d:=d) (fun j hj hs=>dP s d j true (by omega) hs) (fun j hj h2=>jG hs d (by omega) j true (by omega) h2) (s.size+3) (k+1) b [] i0 (fun r hr=>absurd hr (jbS))
       refine xo ?_ hw
       have:=hi.2.2.2
       have:=hi.2.1
       simp only [maxLen]
       omega
   · exact pi s k b
theorem yZ:FOk Tryz.prog T 100 { pre:=fun _=>False,res:=fun _=>.none,bx:=true }:=by
 refine fokB (env:=envL []) (N:=94) tabT af mixed Tryz.func100 rfl Tryz.call100 Tryz.ntmps100 ?_
 exact fun cs args h=>h.elim
theorem xa:FOk Tryz.prog T 100 (mR cV 0 (fun s k b=>valI s 0 k b)):=by
 refine fokB (env:=envL [(95,jV),(136,jW),(137,(sa cV vTxt)),(100, { pre:=fun _=>False,res:=fun _=>.none,bx:=true }),(98,(spRd cV (fun _ _ _=>True) aW))]) (N:=94) tabT (ac xk95 (ac xh (ac yW (ac yZ (ac xk98 af))))) mixed Tryz.func100 rfl Tryz.call100 Tryz.ntmps100 ?_
 rintro cs args ⟨s,k,b,x,hp,rfl,he⟩ hwf
 simp only [jce,SV.tup.injEq,jci,true_and,and_true] at he
 obtain ⟨rfl,rfl⟩:=he
 obtain ⟨hz,h0,h1⟩:=id hp
 obtain ⟨k,rfl⟩:=jcP h0
 have hk:k≤s.size:=by omega
 refine ⟨by simp,?_⟩
 clear hwf
 rw [Tryz.results100]
 repeat' first
  | refine And.intro ?_ ?_
  | (intro h;simp only [reduceCtorEq] at h;done)
  | (intro h;rw [h])
  | intro h
 all_goals first
  | (show aa _=true;kernel_rfl)|(show am _ _=true;kernel_rfl)|exact True.intro|exact Or.inr rfl|exact Or.inl rfl
  | exact ⟨_,_,_,_,hp,by decide,rfl⟩
  | (have hq:stB s (k:Int) QUO=true:=by assumption
     obtain ⟨hK,hlt⟩:=pz hq
     have hix:(Lib.indexByte (s.extract (tkK s (k:Int) QUO).toNat (s.size:Int).toNat).data.toList 34)=(if quoE s (k:Int)=s.size then -1 else (quoE s (k:Int):Int) - (k+1)):=by rw [hK];exact ml hlt
     first
      | (show (0:Int)≤tkK s (k:Int) QUO;rw [hK];omega)
      | (show tkK s (k:Int) QUO≤(s.size:Int);rw [hK];omega)
      | exact jcz _
      | (refine ⟨_,?_,rfl⟩;rw [jcd];omega)
      | (have hn:decide ((Lib.indexByte (s.extract (tkK s (k:Int) QUO).toNat (s.size:Int).toNat).data.toList 34) < 0)=true:=by assumption
         have hv:=uG (b:=b) hq (lX hq hix hn) 0
         first
          | exact resR hv rfl
          | exact gq hv (by rw [hK];rfl) rfl)
      | (have hn:decide ((Lib.indexByte (s.extract (tkK s (k:Int) QUO).toNat (s.size:Int).toNat).data.toList 34) < 0)=false:=by assumption
         obtain ⟨hQ,hx,hge,hle⟩:=jq hq hix hn
         have hv:=qv (b:=b) hq (by rw [hQ];show ¬ (quoE s (k:Int):Int)+1 < 0;omega) 0
         have hw:IntKind.i64.wrap (tkK s (k:Int) QUO+(Lib.indexByte (s.extract (tkK s (k:Int) QUO).toNat (s.size:Int).toNat).data.toList 34))=(quoE s (k:Int):Int):=by rw [hx,hK];refine (wr64 ?_ ?_).trans ?_ <;> omega
         first
          | (show tkK s (k:Int) QUO≤IntKind.i64.wrap (tkK s (k:Int) QUO+(Lib.indexByte (s.extract (tkK s (k:Int) QUO).toNat (s.size:Int).toNat).data.toList 34));rw [hw,hK];omega)
          | (show IntKind.i64.wrap (tkK s (k:Int) QUO+(Lib.indexByte (s.extract (tkK s (k:Int) QUO).toNat (s.size:Int).toNat).data.toList 34))≤(s.size:Int);rw [hw];omega)
          | exact ⟨_,rfl⟩
          | (refine resR hv ?_
             have ht:s.extract (tkK s (k:Int) QUO).toNat (IntKind.i64.wrap (tkK s (k:Int) QUO+(Lib.indexByte (s.extract (tkK s (k:Int) QUO).toNat (s.size:Int).toNat).data.toList 34))).toNat=(quoP s (k:Int)).1:=by rw [hw,hK,hQ];rfl
             exact congrArg (fun t=>rowC cV (vTxt t)) ht)
          | (refine gq hv ?_ rfl
             rw [hw]
             refine (wr64 ?_ ?_).trans ?_
             · omega
             · omega
             · rw [hQ])))
  | (have hq:stB s (k:Int) QUO=false:=by assumption
     have hK:tkK s (k:Int) QUO=(k:Int):=bQ hq
     first
      | exact absurd (by assumption:decide (((0:Nat):Int) > 0)=true) (by decide)
      | exact ⟨_,_,_,hp.tk QUO,trivial,rfl⟩
      | exact rfl
      | exact resR (rA hq) (congrArg (fun z=>rowC cV (aW s z b).1) hK)
      | exact jdk (congrArg (fun z=>rdrC s (aW s z b).2.1 (aW s z b).2.2) hK) (congrArg (fun r:Rd3=>rdrC s r.2.1 r.2.2) (rA hq).symm))
  | exact rfl
  | skip
theorem w9 (d:Nat) (hd:d+1≤100) (val:ByteArray→Int→Bool→Rd3) (hval:val=fun s k b=>valI s d k b) (hn:FOk Tryz.prog T 100 (mR cV d val)):FOk Tryz.prog T 100 (mR cV (d+1) (fun s k b=>valI s (d+1) k b)):=by
 refine fokB (env:=envL [(95,jV),(136,jW),(137,(sa cV vTxt)),(100,(mR cV d val)),(98,(spRd cV (fun _ _ _=>True) aW))]) (N:=94) tabT (ac xk95 (ac xh (ac yW (ac hn (ac xk98 af))))) mixed Tryz.func100 rfl Tryz.call100 Tryz.ntmps100 ?_
 rintro cs args ⟨s,k,b,x,hp,rfl,he⟩ hwf
 simp only [jce,SV.tup.injEq,jci,true_and,and_true] at he
 obtain ⟨rfl,rfl⟩:=he
 obtain ⟨hz,h0,h1⟩:=id hp
 obtain ⟨k,rfl⟩:=jcP h0
 have hk:k≤s.size:=by omega
 have hcast:decide (((d+1:Nat):Int) > 0)=true:=decide_eq_true (by omega)
 refine ⟨by simp,?_⟩
 clear hwf
 rw [Tryz.results100]
 repeat' first
  | refine And.intro ?_ ?_
  | (intro h;exact absurd (h.symm.trans hcast) Bool.noConfusion)
  | (intro h;simp only [reduceCtorEq] at h;done)
  | (intro h;rw [h])
  | intro h
 all_goals first
  | (show aa _=true;kernel_rfl)|(show am _ _=true;kernel_rfl)|exact True.intro|exact Or.inr rfl|exact Or.inl rfl
  | exact rfl
  | exact ⟨_,_,_,_,hp,by decide,rfl⟩
  | (have hq:stB s (k:Int) QUO=true:=by assumption
     obtain ⟨hK,hlt⟩:=pz hq
     have hix:(Lib.indexByte (s.extract (tkK s (k:Int) QUO).toNat (s.size:Int).toNat).data.toList 34)=(if quoE s (k:Int)=s.size then -1 else (quoE s (k:Int):Int) - (k+1)):=by rw [hK];exact ml hlt
     first
      | (show (0:Int)≤tkK s (k:Int) QUO;rw [hK];omega)
      | (show tkK s (k:Int) QUO≤(s.size:Int);rw [hK];omega)
      | exact jcz _
      | (refine ⟨_,?_,rfl⟩;rw [jcd];omega)
      | (have hn:decide ((Lib.indexByte (s.extract (tkK s (k:Int) QUO).toNat (s.size:Int).toNat).data.toList 34) < 0)=true:=by assumption
         have hv:=uG (b:=b) hq (lX hq hix hn) (d+1)
         first
          | exact resR hv rfl
          | exact gq hv (by rw [hK];rfl) rfl)
      | (have hn:decide ((Lib.indexByte (s.extract (tkK s (k:Int) QUO).toNat (s.size:Int).toNat).data.toList 34) < 0)=false:=by assumption
         obtain ⟨hQ,hx,hge,hle⟩:=jq hq hix hn
         have hv:=qv (b:=b) hq (by rw [hQ];show ¬ (quoE s (k:Int):Int)+1 < 0;omega) (d+1)
         have hw:IntKind.i64.wrap (tkK s (k:Int) QUO+(Lib.indexByte (s.extract (tkK s (k:Int) QUO).toNat (s.size:Int).toNat).data.toList 34))=(quoE s (k:Int):Int):=by rw [hx,hK];refine (wr64 ?_ ?_).trans ?_ <;> omega
         first
          | (show tkK s (k:Int) QUO≤IntKind.i64.wrap (tkK s (k:Int) QUO+(Lib.indexByte (s.extract (tkK s (k:Int) QUO).toNat (s.size:Int).toNat).data.toList 34));rw [hw,hK];omega)
          | (show IntKind.i64.wrap (tkK s (k:Int) QUO+(Lib.indexByte (s.extract (tkK s (k:Int) QUO).toNat (s.size:Int).toNat).data.toList 34))≤(s.size:Int);rw [hw];omega)
          | exact ⟨_,rfl⟩
          | (refine resR hv ?_
             have ht:s.extract (tkK s (k:Int) QUO).toNat (IntKind.i64.wrap (tkK s (k:Int) QUO+(Lib.indexByte (s.extract (tkK s (k:Int) QUO).toNat (s.size:Int).toNat).data.toList 34))).toNat=(quoP s (k:Int)).1:=by rw [hw,hK,hQ];rfl
             exact congrArg (fun t=>rowC cV (vTxt t)) ht)
          | (refine gq hv ?_ rfl
             rw [hw]
             refine (wr64 ?_ ?_).trans ?_
             · omega
             · omega
             · rw [hQ])))
  | (have hq:stB s (k:Int) QUO=false:=by assumption
     have hK:tkK s (k:Int) QUO=(k:Int):=bQ hq
     first
      | exact ⟨_,_,_,_,hp.tk QUO,by decide,rfl⟩
      | exact ⟨_,_,_,_,(hp.tk QUO).tk LBR,by decide,rfl⟩
      | (have hl:stB s (k:Int) LBR=false:=by rw [← hK];assumption
         have hL:(tkK s (tkK s (k:Int) QUO) LBR)=(k:Int):=by rw [hK];exact bQ hl
         have hv:=vI_n (b:=b) (d:=d) hq hl
         first
          | exact ⟨_,_,_,(hp.tk QUO).tk LBR,trivial,rfl⟩
          | exact resR hv (congrArg (fun z=>rowC cV (aW s z b).1) hL)
          | exact jdk (congrArg (fun z=>rdrC s (aW s z b).2.1 (aW s z b).2.2) hL) (congrArg (fun r:Rd3=>rdrC s r.2.1 r.2.2) hv.symm))
      | (have hl:stB s (k:Int) LBR=true:=by rw [← hK];assumption
         have hL:(tkK s (tkK s (k:Int) QUO) LBR)=(k:Int)+1:=by rw [hK];exact dq hl
         have hr:stB s ((k:Int)+1) RBR=true:=by rw [← hL];assumption
         have hR:(tkK s (tkK s (tkK s (k:Int) QUO) LBR) RBR)=(k:Int)+1+1:=by rw [hL];exact dq hr
         have hv:=vI_e (b:=b) (d:=d) hq hl hr
         first
          | exact resR hv rfl
          | exact gq hv hR rfl))
  | skip
 have hq:stB s (k:Int) QUO=false:=by assumption
 have hK:tkK s (k:Int) QUO=(k:Int):=bQ hq
 have hl:stB s (k:Int) LBR=true:=by rw [← hK];assumption
 have hL:(tkK s (tkK s (k:Int) QUO) LBR)=(k:Int)+1:=by rw [hK];exact dq hl
 have hr:stB s ((k:Int)+1) RBR=false:=by rw [← hL];assumption
 have hR:(tkK s (tkK s (tkK s (k:Int) QUO) LBR) RBR)=(k:Int)+1:=by rw [hL];exact bQ hr
 have hv:=vI_l (b:=b) (d:=d) hq hl hr
 have hlt:(k:Int)+1≤s.size:=bi hl
 have hV:(fun k b=>val s k b)=valI s d:=by rw [hval]
 have hpos:∀ j,(k:Int)+1≤j→j≤s.size→PosI s j true d (val s j true):=by
  intro j hj hs
  rw [hval]
  exact dP s d j true (by omega) hs
 have hwf:∀ j,(k:Int)+1≤j→j≤s.size→WfRow T cV (val s j true).1:=by
  intro j hj hs
  rw [hval]
  exact jG hz d (by omega) j true (by omega) hs
 clear hval
 refine ap (Q:=_) [0,1,4,7] [94,4,7] (fun m st=>∃ (j:Int) (c:Bool) (o:List (List D)),st=([.ptr 94 0 0,iArg ((d+1:Nat):Int),.ptr 4 1 0,.ptr 7 1 0],[(0,[.val false [.s s],.val false [.i .i64 j],.val false [.b c]]),(1,[.val false [.i .i64 0],.val false [.i .i64 0],.val false [.i .i64 0],.val false [.s ByteArray.empty],.val false [.sl true 53 []],.val false [.sl true 9 []],.val false [.sl true 126 []]]),(1,[.val false [.i .i64 3],.val false [.i .i64 0],.val false [.i .i64 0],.val false [.s ByteArray.empty],.val false [.sl true 53 o],.val false [.sl true 9 []],.val false [.sl true 126 []]])])∧ItI s ((k:Int)+1) j c d o∧1≤m∧(c=true→(s.size:Int) - j+2≤m)∧bz (fun k b=>val s k b) s m j c o=bz (valI s d) s (s.size+3) ((k:Int)+1) b []) ?_ ?_
 · refine ⟨rfl,s.size+3,(k:Int)+1,b,[],?_,⟨by omega,by omega,fun _=>by show ((0+0:Nat):Int)≤_;omega,by show ((0+0:Nat):Int)≤_;omega⟩,by omega,fun _=>by omega,by rw [hV]⟩
   exact congrArg (fun z:Int=>(([.ptr 94 0 0,iArg ((d+1:Nat):Int),.ptr 4 1 0,.ptr 7 1 0],[(0,[.val false [.s s],.val false [.i .i64 z],.val false [.b b]]),(1,[.val false [.i .i64 0],.val false [.i .i64 0],.val false [.i .i64 0],.val false [.s ByteArray.empty],.val false [.sl true 53 []],.val false [.sl true 9 []],.val false [.sl true 126 []]]),(1,[.val false [.i .i64 3],.val false [.i .i64 0],.val false [.i .i64 0],.val false [.s ByteArray.empty],.val false [.sl true 53 []],.val false [.sl true 9 []],.val false [.sl true 126 []]])]):Snap)) hR
 rintro m st ⟨j,c,o,rfl,hI,h1m,hm,hE⟩
 have hlen:o.length≤4194304:=by have:=hI.2.2.2;have:=hI.2.1;omega
 cases c with
 | false =>
   rw [qb] at hE
   repeat' first
    | refine And.intro ?_ ?_
    | (intro h;simp only [reduceCtorEq] at h;done)
    | (intro h;rw [h])
    | intro h
   all_goals first
    | (show aa _=true;kernel_rfl)|(show am _ _=true;kernel_rfl)|exact True.intro|exact Or.inr rfl|exact Or.inl rfl
    | (refine resR hv ?_;rw [← hE];rfl)
    | (refine gq hv ?_ ?_ <;> rw [← hE])
    | exact absurd (by assumption:false=true) Bool.noConfusion
    | skip
 | true =>
 obtain ⟨m,rfl⟩:∃ m',m=m' + 1:=⟨m - 1,by omega⟩
 have pj:PosIn s j:=⟨hz,by have:=hI.1;omega,hI.2.1⟩
 have pv:=hpos j hI.1 hI.2.1
 have w7:csD (rowC cV (val s j true).1)=(val s j true).1:=au (hwf j hI.1 hI.2.1)
 have pv2:PosIn s (val s j true).2.1:=pv.in_ pj
 have hmm:=hm rfl
 repeat' first
  | refine And.intro ?_ ?_
  | (intro h;simp only [reduceCtorEq] at h;done)
  | (intro h;rw [h])
  | intro h
 all_goals first
  | (show aa _=true;kernel_rfl)|(show am _ _=true;kernel_rfl)|exact True.intro|exact Or.inr rfl|exact Or.inl rfl
  | exact rfl
  | exact absurd (by assumption:true=false) Bool.noConfusion
  | (refine ⟨_,_,_,_,pj,?_,rfl⟩;refine (wr64 ?_ ?_).trans ?_ <;> omega)
  | exact ⟨_,_,_,_,pv2,by decide,rfl⟩
  | exact ⟨_,_,_,_,pv2.tk RBR,by decide,rfl⟩
  | (show o.length+1≤maxLen;simp only [maxLen];omega)
  | (show (o.length+1) * 112≤_;omega)
  | (have hs:stB s (val s j true).2.1 RBR=true:=by assumption
     have hE2:=hE.symm.trans (yx (val:=fun k b=>val s k b) hs)
     have hT:tkK s (val s j true).2.1 RBR=(val s j true).2.1+1:=dq hs
     first
      | (refine resR hv ?_
         rw [hE2]
         show _=rowC cV (vLst (o++[(val s j true).1]))
         exact congrArg (fun r=>rowC cV (vLst (o++[r]))) w7)
      | (refine gq hv ?_ ?_
         · rw [hE2,hT]
         · rw [hE2]))
  | (have hs:stB s (val s j true).2.1 RBR=false:=by assumption
     have hT:tkK s (val s j true).2.1 RBR=(val s j true).2.1:=bQ hs
     first
      | (show aT _ _;exact rfl)
      | (refine ⟨m,jcO _,andK s (val s j true).2.1 (val s j true).2.2 COMMA,andB s (val s j true).2.1 (val s j true).2.2 COMMA,o++[(val s j true).1],?_,ju hI pv,?_,?_,(yw (val:=fun k b=>val s k b) hs).symm.trans hE⟩
         · refine sg (f:=fun z y r=>(([.ptr 94 0 0,iArg ((d+1:Nat):Int),.ptr 4 1 0,.ptr 7 1 0],[(0,[.val false [.s s],.val false [.i .i64 z],.val false [.b y]]),(1,[.val false [.i .i64 0],.val false [.i .i64 0],.val false [.i .i64 0],.val false [.s ByteArray.empty],.val false [.sl true 53 []],.val false [.sl true 9 []],.val false [.sl true 126 []]]),(1,[.val false [.i .i64 3],.val false [.i .i64 0],.val false [.i .i64 0],.val false [.s ByteArray.empty],.val false [.sl true 53 r],.val false [.sl true 9 []],.val false [.sl true 126 []]])]):Snap)) ?_ ?_ (congrArg (fun r=>o++[r]) w7)
           · first
              | exact (congrArg (fun z=>tkK s z COMMA) hT).trans (ie (by assumption))
              | exact hT.trans (qr (by assumption))
           · first
              | exact (congrArg (fun z=>stB s z COMMA) hT).trans (ig (by assumption))
              | exact qs (by assumption)
         · have:=pv.2.1;have:=pv.1;omega
         · intro hc
           obtain ⟨c1,c2,c3⟩:=wW hc
           have e:(COMMA.size:Int)=2:=rfl
           have:=(pv.2.2.1 c1).2.1
           have:=pv.2.1
           rw [c3,e]
           omega))
  | skip
theorem ro:∀ d,d≤100→FOk Tryz.prog T 100 (mR cV d (fun s k b=>valI s d k b))
 | 0,_=>xa
 | d+1,h=>w9 d h (fun s k b=>valI s d k b) rfl (ro d (by omega))
end Go.Proofs.YtdjfhmghebommaaGreatDoor.Ab
