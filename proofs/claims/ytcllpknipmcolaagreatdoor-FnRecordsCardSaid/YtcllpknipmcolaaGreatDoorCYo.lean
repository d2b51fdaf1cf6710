/- The reference's reading of tables, and of values, exactly: printed by a program of this -/
import Derived.Test.YtcllpknipmcolaaGreatDoorCYl
namespace Go.Proofs.YtcllpknipmcolaaGreatDoor.Ab
open Go.RowKit
set_option linter.all false
set_option maxRecDepth 100000
set_option maxHeartbeats 2000000
theorem xt118 (n:Nat) (itm:ByteArray→Int→List (List D) × Int) (hpos:∀ s k,PosIn s k→(itm s k).2 = -1∨(k < (itm s k).2∧(itm s k).2≤s.size)) (hwt:∀ s k,PosIn s k→aN (itm s k).1≤4194304) (hwf:∀ s k,PosIn s k→(itm s k).1.length≤64∧∀ r ∈ (itm s k).1,WfRow T cV r) (hi:FOk Tryz.prog T 116 (spLP 57 (Fu n) itm)):FOk Tryz.prog T 118 (spVP cV (Fu n) (fun s k=>tabP (itm s) s k)):=by
 refine fok (env:=envL [(114,rO),(113,fm),(116,(spLP 57 (Fu n) itm)),(40,(fS true))]) (N:=88) tabT (aa zG (aa ri (aa hi (aa ok40 ae)))) mixed Tryz.func118 rfl Tryz.call118 Tryz.ntmps118 ?_
 rintro args ⟨s,k,hp,hf,rfl⟩ hwf'
 clear hwf'
 refine ⟨by simp,?_⟩
 rw [Tryz.results118]
 repeat' first
  | (refine And.intro ?_ ?_)
  | (intro h;simp only [reduceCtorEq] at h;done)
  | (intro h;rw [h])
  | (intro h)
 all_goals first
  | exact True.intro
  | exact Or.inr rfl
  | exact ⟨_,_,hp,rfl⟩
  | exact resV (tab_1 (by assumption)) rfl rfl
  | exact resV (tab_2 (by assumption) (by assumption)) rfl rfl
  | exact ⟨_,_,_,sK hp (by assumption),by decide,rfl⟩
  | (have c0:decide ((quoP s k).2 < 0)=false:=by assumption
     have c1:(!stB s (quoP s k).2 CLB)=false:=by assumption
     have hq:=posC (sK hp c0) (w:=CLB) (by decide) (aI c1)
     have hy:(IntKind.i64.wrap ((quoP s k).2+3))=(quoP s k).2+3:=hq.1
     have py:PosIn s (IntKind.i64.wrap ((quoP s k).2+3)):=by rw [hy];exact hq.2
     have gk:k≤(IntKind.i64.wrap ((quoP s k).2+3)):=by
      rw [hy]
      rcases cA hp.2.1 hp.2.2 with h|h
      · have:=jcv c0;omega
      · omega
     first
      | exact ⟨_,_,py,hf.of gk,rfl⟩
      | exact resV (tab_3 hy c0 c1 (by assumption)) rfl rfl
      | exact resV (tab_4 hy c0 c1 (by assumption) (by assumption)) rfl rfl
      | (have c2:decide ((itm s (IntKind.i64.wrap ((quoP s k).2+3))).2 < 0)=false:=by assumption
         have pin:PosIn s (itm s (IntKind.i64.wrap ((quoP s k).2+3))).2:=by
          rcases hpos s (IntKind.i64.wrap ((quoP s k).2+3)) py with h|h
          · have:=jcv c2;omega
          · exact ⟨py.1,by have:=py.2.1;omega,h.2⟩
         first
          | exact ⟨_,_,_,pin,by decide,rfl⟩
          | (refine ⟨_,?_,rfl⟩
             rcases cA hp.2.1 hp.2.2 with h|h
             · rw [h.2];decide
             · have:=hp.1;have:=hp.2.1;omega)))
  | skip
 have c0:decide ((quoP s k).2 < 0)=false:=by assumption
 have c1:(!stB s (quoP s k).2 CLB)=false:=by assumption
 have c2:decide ((itm s (IntKind.i64.wrap ((quoP s k).2+3))).2 < 0)=false:=by assumption
 have c3:(!stB s (itm s (IntKind.i64.wrap ((quoP s k).2+3))).2 RPA)=false:=by assumption
 have hq:=posC (sK hp c0) (w:=CLB) (by decide) (aI c1)
 have hy:(IntKind.i64.wrap ((quoP s k).2+3))=(quoP s k).2+3:=hq.1
 have py:PosIn s (IntKind.i64.wrap ((quoP s k).2+3)):=by rw [hy];exact hq.2
 have pin:PosIn s (itm s (IntKind.i64.wrap ((quoP s k).2+3))).2:=by
  rcases hpos s (IntKind.i64.wrap ((quoP s k).2+3)) py with h|h
  · have:=jcv c2;omega
  · exact ⟨py.1,by have:=py.2.1;omega,h.2⟩
 have hz:=(posC pin (w:=RPA) (by decide) (aI c3)).1
 have hw:=hwf s (IntKind.i64.wrap ((quoP s k).2+3)) py
 have hwr:=hwt s (IntKind.i64.wrap ((quoP s k).2+3)) py
 generalize hR:itm s (IntKind.i64.wrap ((quoP s k).2+3))=R at *
 have hl:R.1.length≤64:=hw.1
 have hl' : R.1.length≤maxLen:=jcr hl (by decide)
 refine am (Q:=_) [4,8,9,10,11] [4,10] (fun m st=>∃ i:Nat,st=([.ptr 4 1 0,argS 57 R.1,iArg R.2,.ptr 10 1 0,iArg (i:Int)],[(1,[.val false [.i .i64 0],.val false [.i .i64 0],.val false [.i .i64 0],.val false [.s ByteArray.empty],.val false [.sl true 57 []],.val false [.sl true 9 []],.val false [.sl true 101 []]]),(1,[.val false [.i .i64 5],.val false [.i .i64 0],.val false [.i .i64 0],.val false [.s ByteArray.empty],.val false [.sl true 57 []],.val false [.sl true 9 (ac (ah (quoP s k).1))],.val false [.sl true 101 ((R.1.take i).map aH)]])])∧i≤R.1.length∧m=R.1.length - i) ?_ ?_
 · exact ⟨rfl,R.1.length,0,rfl,jcl _,rfl⟩
 rintro m st ⟨i,rfl,hle,rfl⟩
 repeat' first
  | (refine And.intro ?_ ?_)
  | (intro h;simp only [reduceCtorEq] at h;done)
  | (intro h;rw [h])
  | (intro h)
 all_goals first
  | exact True.intro
  | exact Or.inr rfl
  | (have hi:¬ i < R.1.length:=nltN (by assumption)
     refine resV (jaj (itm:=itm s) (y:=(IntKind.i64.wrap ((quoP s k).2+3))) hy c0 c1 (by rw [hR];exact c2) (by rw [hR];exact c3)) ?_ (by rw [hR];exact hz)
     rw [hR]
     rw [cz hi]
     rfl)
  | skip
 have hi:i < R.1.length:=ltN (by assumption)
 have wv:WfRow T cV (rAt R.1 i):=by
  refine hw.2 _ ?_
  show R.1.getD i [] ∈ R.1
  rw [jcp,jcj hi]
  exact jdK hi
 have wl:=(wv.rows (j:=4) rfl).len
 have wl' : (lst (rAt R.1 i)).length≤maxLen:=wl
 have wvl:(lst (rAt R.1 i)).length≤4194304:=by
  have h1:=gW hi
  have h2:=cu (rAt R.1 i) 4
  have h3:wRow (rAt R.1 i)≤aN R.1:=h1
  show ((rAt R.1 i).getD 4 default).rows.length≤_
  omega
 refine am (Q:=_) [4,8,9,10,11,12,13] [4,10,12] (fun m st=>∃ k' : Nat,st=([.ptr 4 1 0,argS 57 R.1,iArg R.2,.ptr 10 1 0,iArg (i:Int),.ptr 12 1 0,iArg (k' : Int)],[(1,[.val false [.i .i64 0],.val false [.i .i64 0],.val false [.i .i64 0],.val false [.s ByteArray.empty],.val false [.sl true 57 []],.val false [.sl true 9 []],.val false [.sl true 101 []]]),(1,[.val false [.i .i64 5],.val false [.i .i64 0],.val false [.i .i64 0],.val false [.s ByteArray.empty],.val false [.sl true 57 []],.val false [.sl true 9 (ac (ah (quoP s k).1))],.val false [.sl true 101 ((R.1.take i).map aH)]]),(1,[.val false [.sl true 3 (((lst (rAt R.1 i)).take k').map fun y=>[D.i (iAt y 1)])],.val false [.sl true 126 []]])])∧k' ≤ (lst (rAt R.1 i)).length∧m=(lst (rAt R.1 i)).length - k') ?_ ?_
 · exact ⟨rfl,(lst (rAt R.1 i)).length,0,rfl,jcl _,rfl⟩
 rintro m st ⟨k',rfl,kle,rfl⟩
 repeat' first
  | (refine And.intro ?_ ?_)
  | (intro h;simp only [reduceCtorEq] at h;done)
  | (intro h;rw [h])
  | (intro h)
 all_goals first
  | (show av _=true;kernel_rfl)
  | (show aX _ _=true;kernel_rfl)
  | with_reducible exact jcy _
  | (show (i:Int) < _;omega)
  | (have hk:k' < (lst (rAt R.1 i)).length:=ltN (by assumption)
     first
      | (show (k' : Int) < ((lst (rAt R.1 i)).length:Int);omega)
      | (show (((lst (rAt R.1 i)).take k').map _).length+1≤maxLen;rw [jcw,jcD];omega)
      | (show ((((lst (rAt R.1 i)).take k').map _).length+1) * 8≤_;rw [jcw,jcD];omega)
      | (show aV _ _;exact rfl)
      | (refine ⟨(lst (rAt R.1 i)).length - (k' + 1),by omega,k' + 1,?_,by omega,rfl⟩
         exact ef (f:=fun r z=>(([.ptr 4 1 0,argS 57 R.1,iArg R.2,.ptr 10 1 0,iArg (i:Int),.ptr 12 1 0,iArg z],[(1,[.val false [.i .i64 0],.val false [.i .i64 0],.val false [.i .i64 0],.val false [.s ByteArray.empty],.val false [.sl true 57 []],.val false [.sl true 9 []],.val false [.sl true 101 []]]),(1,[.val false [.i .i64 5],.val false [.i .i64 0],.val false [.i .i64 0],.val false [.s ByteArray.empty],.val false [.sl true 57 []],.val false [.sl true 9 (ac (ah (quoP s k).1))],.val false [.sl true 101 ((R.1.take i).map aH)]]),(1,[.val false [.sl true 3 r],.val false [.sl true 126 []]])]):Snap)) (eO (fun y=>[D.i (iAt y 1)]) hk) (wrapN hk wl')))
  | (have hk:¬ k' < (lst (rAt R.1 i)).length:=nltN (by assumption)
     first
      | (show ((R.1.take i).map aH).length+1≤maxLen;rw [jcw,jcD];simp only [maxLen];omega)
      | (show (((R.1.take i).map aH).length+1) * 48≤_;rw [jcw,jcD];omega)
      | (show aV _ _;exact rfl)
      | (refine ⟨R.1.length - (i+1),by omega,i+1,?_,by omega,rfl⟩
         refine ef (f:=fun r z=>(([.ptr 4 1 0,argS 57 R.1,iArg R.2,.ptr 10 1 0,iArg z],[(1,[.val false [.i .i64 0],.val false [.i .i64 0],.val false [.i .i64 0],.val false [.s ByteArray.empty],.val false [.sl true 57 []],.val false [.sl true 9 []],.val false [.sl true 101 []]]),(1,[.val false [.i .i64 5],.val false [.i .i64 0],.val false [.i .i64 0],.val false [.s ByteArray.empty],.val false [.sl true 57 []],.val false [.sl true 9 (ac (ah (quoP s k).1))],.val false [.sl true 101 r]])]):Snap)) ?_ (wrapN hi hl')
         refine jdQ ?_ (eO aH hi)
         rw [cz hk]
         rfl))
theorem zy:∀ n,FOk Tryz.prog T 80 (spVP cV (Fu n) (fun s k=>parF s n k)):=by
 intro n
 induction n with
 | zero =>
   exact fok (env:=envL []) (N:=80) tabT ae mixed Tryz.func80 rfl Tryz.call80 Tryz.ntmps80 fun args h=>by
    obtain ⟨s,k,hp,hf,rfl⟩:=h
    have:=hp.2.2
    unfold Fu at hf
    omega
 | succ n ih =>
   have hi:FOk Tryz.prog T 116 (spLP 57 (Fu n) (fun s k=>itmP (parF s n) s k)):=xi116 n ih
   exact xp80 n hi (xt118 n (fun s k=>itmP (parF s n) s k) (fun s k hp=>by
    rcases mh (par:=parF s n) (s:=s) (k0:=k) (fun j hk hs=>dj s n j (by have:=hp.2.1;omega) hs) hp.2.2 with h|h
    · exact .inl h.1
    · exact .inr ⟨h.1,h.2.1⟩) (fun s k hp=>by
    rcases mh (par:=parF s n) (s:=s) (k0:=k) (fun j hk hs=>dj s n j (by have:=hp.2.1;omega) hs) hp.2.2 with h|h
    · show aN (itmP (parF s n) s k).1≤_
      rw [h.2];exact jcl _
    · have:=hp.1;have:=hp.2.1
      show aN (itmP (parF s n) s k).1≤_
      omega) (fun s k hp=>wc (par:=parF s n) (s:=s) (k0:=k) (fun j hk hs=>dj s n j (by have:=hp.2.1;omega) hs) (fun j hk hs=>kH hp.1 n j (by have:=hp.2.1;omega) hs) hp.2.2) hi)
theorem xv43 (n:Nat) (par:ByteArray→Int→List D × Int) (hwf:∀ s,s.size≤1048576→WfRow T cV (par s 0).1) (hwt:∀ s,s.size≤1048576→wRow (par s 0).1≤WM) (hp:FOk Tryz.prog T 80 (spVP cV (Fu n) par)):FOk Tryz.prog T 43 (spPV cV n (fun s=>pvOf (par s 0).1 ((par s 0).2 == (s.size:Int)) s)):=by
 refine fok (env:=envL [(80,(spVP cV (Fu n) par)),(51,(spGT T cV SmM fmtO))]) (N:=27) tabT (aa hp (aa xk51 ae)) mixed Tryz.func43 rfl Tryz.call43 Tryz.ntmps43 ?_
 rintro args ⟨s,hs,hn,rfl⟩ hwf'
 clear hwf'
 have w:=hwf s hs
 have wt:=hwt s hs
 have w7:csD (rowC cV (par s 0).1)=(par s 0).1:=aw w
 refine ⟨by simp,?_⟩
 rw [Tryz.results43]
 repeat' first
  | (refine And.intro ?_ ?_)
  | (intro h;simp only [reduceCtorEq] at h;done)
  | (intro h;rw [h])
  | (intro h)
 all_goals first
  | (show av _=true;kernel_rfl)|(show aX _ _=true;kernel_rfl)|exact True.intro|exact Or.inr rfl|exact Or.inl rfl
  | exact ⟨_,_,⟨hs,jc5 _,jcy _⟩,(by unfold Fu;omega),rfl⟩
  | exact ⟨_,w,wt,rfl⟩
  | exact fu (pv_1 (jb3 (by assumption))) rfl rfl
  | (have hz:(!(fmtO (par s 0).1).toList == s.toList)=true:=(by rw [← w7];assumption)
     exact fu (pv_2 hz) rfl rfl)
  | exact fu (pv_3 (by assumption)) rfl rfl
  | (have hz:(!(fmtO (par s 0).1).toList == s.toList)=false:=(by rw [← w7];assumption)
     exact fu (pv_4 (jb4 (by assumption)) hz (by assumption)) rfl rfl)
  | skip
theorem xk43 (n:Nat):FOk Tryz.prog T 43 (spPV cV n (pvS n)) :=
 xv43 n (fun s k=>parF s n k) (fun s hs=>kH hs n 0 (jc5 _) (by omega)) (fun s hs=>by
  have h:=dj s n 0 (jc5 _) (by omega)
  show wRow (parF s n 0).1≤1099511627776
  rcases h with h|h
  · omega
  · omega) (zy n)
end Go.Proofs.YtcllpknipmcolaaGreatDoor.Ab
