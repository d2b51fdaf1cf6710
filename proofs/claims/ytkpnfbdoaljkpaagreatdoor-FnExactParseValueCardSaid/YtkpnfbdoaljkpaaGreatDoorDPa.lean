/- Readers of numbers, words and texts: printed by a program of this -/
import Derived.Test.YtkpnfbdoaljkpaaGreatDoorDFh
import Derived.Test.YtkpnfbdoaljkpaaGreatDoorDFq
import Derived.Test.YtkpnfbdoaljkpaaGreatDoorDSh
namespace Go.Proofs.YtkpnfbdoaljkpaaGreatDoor.Ab
open Go.RowKit
set_option linter.unusedVariables false
set_option linter.unusedSimpArgs false
set_option maxRecDepth 100000
theorem ok165:FOk Tryz.prog T 165 spRead:=by
  refine fok (env:=envL [(89,spItoa)]) (N:=63) tabT (envL_cons ok89 envL_nil) mixed Tryz.func165 rfl Tryz.call165 Tryz.ntmps165 ?_
  rintro args ⟨s,rfl⟩ hwf
  have hs:s.size≤maxLen:=hwf _ (List.mem_cons_self ..) _ (List.mem_singleton_self _)
  clear hwf
  refine ⟨by simp,?_⟩
  rw [Tryz.results165]
  repeat' first
    | (refine And.intro ?_ ?_)
    | (intro h;simp only [reduceCtorEq] at h;done)
    | (intro h;rw [h])
    | (intro h)
  all_goals first
    | (show lowEdges _=true;kernel_rfl)|(show logOk _ _=true;kernel_rfl)|exact True.intro|exact Or.inr rfl|exact Or.inl rfl
    | (with_reducible refine of_decide_eq_true (p:=(0:Int) < _) ?_;assumption)
    | (with_reducible refine of_decide_eq_true (p:=_ > (0:Int)) ?_;assumption)
    | (have hh:=head_is (s:=s) (by with_reducible assumption) (by with_reducible assumption)
       with_reducible first
         | exact resP (read_short (tl_is hh) (.inl (by with_reducible assumption)))
         | exact resP (read_short (tl_is hh) (.inr (by with_reducible assumption))))
    | (have hh:=head_isnt (s:=s) (by with_reducible assumption) (by with_reducible assumption)
       with_reducible first
         | exact resP (read_short (tl_isnt hh) (.inl (by with_reducible assumption)))
         | exact resP (read_short (tl_isnt hh) (.inr (by with_reducible assumption))))
    | (have hh:=head_none (s:=s) (by with_reducible assumption)
       with_reducible first
         | exact resP (read_short (tl_isnt hh) (.inl (by with_reducible assumption)))
         | exact resP (read_short (tl_isnt hh) (.inr (by with_reducible assumption))))
    | (exfalso;have h1:=of_decide_eq_false (show decide ((s.size:Int) > 0)=false by with_reducible assumption);have h2:=of_decide_eq_false (show decide ((s.size:Int) < 1)=false by with_reducible assumption);omega)
    | (have:=of_decide_eq_true (show decide ((s.size:Int) > 0)=true by with_reducible assumption);omega)
    | skip
  · have h45:=head_is (s:=s) (by with_reducible assumption) (by with_reducible assumption)
    have htl:=tl_is h45
    have ht12:(s.extract (Int.toNat 1) (s.size:Int).toNat).size≤12:=by have:=of_decide_eq_false (show decide (((s.extract (Int.toNat 1) (s.size:Int).toNat).size:Int) > 12)=false by with_reducible assumption);omega
    clear hs
    refine awp_loop (Q:=_) [0,1,6,7,8,9] [] (fun n st=>∃ N i:Nat,st=([sArg s,iArg 12,.val false [.b true],sArg (s.extract (Int.toNat 1) (s.size:Int).toNat),iArg (N:Int),iArg (i:Int)],[])∧RI (s.extract (Int.toNat 1) (s.size:Int).toNat) N i∧n=(s.extract (Int.toNat 1) (s.size:Int).toNat).size - i) ?_ ?_
    · exact ⟨rfl,(s.extract (Int.toNat 1) (s.size:Int).toNat).size,0,0,rfl,RI.zero _,rfl⟩
    rintro n st ⟨N,i,rfl,hI,rfl⟩
    repeat' first
      | (refine And.intro ?_ ?_)
      | (intro h;simp only [reduceCtorEq] at h;done)
      | (intro h;rw [h])
      | (intro h)
    all_goals first
      | (show lowEdges _=true;kernel_rfl)|(show logOk _ _=true;kernel_rfl)|exact True.intro|exact Or.inr rfl|exact Or.inl rfl
      | exact ⟨_,rfl⟩
      | with_reducible exact Int.natCast_nonneg _
      | (have hi' : decide ((i:Int) < ((s.extract (Int.toNat 1) (s.size:Int).toNat).size:Int))=true:=by with_reducible assumption
         have hi:i < (s.extract (Int.toNat 1) (s.size:Int).toNat).size:=by have:=of_decide_eq_true hi';omega
         first
           | with_reducible exact of_decide_eq_true hi'
           | (show Alive [] _;exact rfl)
           | (refine resP (read_less htl hi (.inl (by with_reducible assumption)) _ _))
           | (refine resP (read_less htl hi (.inr (by with_reducible assumption)) _ _))
           | (have hd:=dig_of (t:=(s.extract (Int.toNat 1) (s.size:Int).toNat)) (i:=i) (by with_reducible assumption) (by with_reducible assumption)
              refine ⟨(s.extract (Int.toNat 1) (s.size:Int).toNat).size - (i+1),by omega,N * 10+(((s.extract (Int.toNat 1) (s.size:Int).toNat).data.getD i 0).toNat - 48),i+1,?_,hI.next hi hd.1 hd.2,rfl⟩
              exact snapI (f:=fun x z=>(([sArg s,iArg 12,.val false [.b true],sArg (s.extract (Int.toNat 1) (s.size:Int).toNat),iArg x,iArg z],[]):Snap)) (hI.num hi ht12 hd.1 hd.2) (IntWalk.i64_in _ (by omega))))
      | (have hi' : decide ((i:Int) < ((s.extract (Int.toNat 1) (s.size:Int).toNat).size:Int))=false:=by with_reducible assumption
         have hi:¬ i < (s.extract (Int.toNat 1) (s.size:Int).toNat).size:=by have:=of_decide_eq_false hi';omega
         have hN:=hI.small ht12
         have hd:=read_same (n:=-(N:Int)) N hN (htl ▸ hI.all hi) (by rw [if_pos h45])
         have hn:IntKind.i64.wrap (0 - (N:Int)) = -(N:Int):=(IntWalk.i64_in _ (by omega)).trans (by omega)
         first
           | exact resP (read_endT hn hd (by with_reducible assumption))
           | exact resP (read_endF hn hd (by with_reducible assumption)))
      | skip
  · have h45:=head_isnt (s:=s) (by with_reducible assumption) (by with_reducible assumption)
    have htl:=tl_isnt h45
    have ht12:s.size≤12:=by have:=of_decide_eq_false (show decide ((s.size:Int) > 12)=false by with_reducible assumption);omega
    clear hs
    refine awp_loop (Q:=_) [0,1,6,7,8,9] [] (fun n st=>∃ N i:Nat,st=([sArg s,iArg 12,.val false [.b false],sArg s,iArg (N:Int),iArg (i:Int)],[])∧RI s N i∧n=s.size - i) ?_ ?_
    · exact ⟨rfl,s.size,0,0,rfl,RI.zero _,rfl⟩
    rintro n st ⟨N,i,rfl,hI,rfl⟩
    repeat' first
      | (refine And.intro ?_ ?_)
      | (intro h;simp only [reduceCtorEq] at h;done)
      | (intro h;rw [h])
      | (intro h)
    all_goals first
      | (show lowEdges _=true;kernel_rfl)|(show logOk _ _=true;kernel_rfl)|exact True.intro|exact Or.inr rfl|exact Or.inl rfl
      | exact ⟨_,rfl⟩
      | with_reducible exact Int.natCast_nonneg _
      | (have hi' : decide ((i:Int) < (s.size:Int))=true:=by with_reducible assumption
         have hi:i < s.size:=by have:=of_decide_eq_true hi';omega
         first
           | with_reducible exact of_decide_eq_true hi'
           | (show Alive [] _;exact rfl)
           | (refine resP (read_less htl hi (.inl (by with_reducible assumption)) _ _))
           | (refine resP (read_less htl hi (.inr (by with_reducible assumption)) _ _))
           | (have hd:=dig_of (t:=s) (i:=i) (by with_reducible assumption) (by with_reducible assumption)
              refine ⟨s.size - (i+1),by omega,N * 10+((s.data.getD i 0).toNat - 48),i+1,?_,hI.next hi hd.1 hd.2,rfl⟩
              exact snapI (f:=fun x z=>(([sArg s,iArg 12,.val false [.b false],sArg s,iArg x,iArg z],[]):Snap)) (hI.num hi ht12 hd.1 hd.2) (IntWalk.i64_in _ (by omega))))
      | (have hi' : decide ((i:Int) < (s.size:Int))=false:=by with_reducible assumption
         have hi:¬ i < s.size:=by have:=of_decide_eq_false hi';omega
         have hN:=hI.small ht12
         have hd:=read_same (n:=(N:Int)) N hN (htl ▸ hI.all hi) (by rw [if_neg h45])
         have hn:(N:Int)=(N:Int):=rfl
         first
           | exact resP (read_endT hn hd (by with_reducible assumption))
           | exact resP (read_endF hn hd (by with_reducible assumption)))
      | skip
end Go.Proofs.YtkpnfbdoaljkpaaGreatDoor.Ab
namespace Go.Proofs.YtkpnfbdoaljkpaaGreatDoor
open Go.ChangeShapes Go.WideShapes Go.ChangeAt Go.RowKit Ab
set_option linter.unusedVariables false
set_option maxRecDepth 200000
abbrev gE (w:World) (g:Nat):Prop:=∃ u x,w.cell? ⟨g,0,none⟩=some (.iface u x)
theorem atoiC (s:ByteArray) (hs:s.size≤281474976710656) (w:World) (hS:gE w 3) (hR:gE w 4) :
    Calls Tryz.prog 169 #[.string s] w fun e w' => ∃ v ev,e=.returned (.tuple #[.int .i64 v,ev])∧Below w.heap.size w w' ∧
      ((ev=.nilIface∧∀ n:Int, -999999999999≤n→n≤999999999999→itoaB n=s→v=n)∨((∃ t p,ev=.iface t p)∧∀ n:Int, -999999999999≤n→n≤999999999999→itoaB n ≠ s)):=by
  obtain ⟨u,x,hS⟩:=hS
  obtain ⟨u',x',hR⟩:=hR
  have back:∀ n:Int,itoaB n=s→Lib.atoi s.data.toList=some n:=fun n h=>by rw [← h,itoaB_list,atoi_itoa]
  by_cases h18:s.size≤18
  · cases ha:Lib.atoi s.data.toList with
    | some n =>
      have uniq:∀ m:Int, -999999999999≤m→m≤999999999999→itoaB m=s→n=m:=fun m _ _ hm=>Option.some.inj (ha.symm.trans (back m hm))
      refine (Tryz.strconv_Atoi s n h18 ha w).mono ?_
      rintro e w' ⟨he,t,hw⟩
      refine ⟨n,.nilIface,he,?_,.inl ⟨rfl,uniq⟩⟩
      rw [hw]
      exact bytesW_below _ _ _
    | none =>
      have none' : ∀ m:Int, -999999999999≤m→m≤999999999999→itoaB m ≠ s:=fun m _ _ hm=>by have:=ha.symm.trans (back m hm);cases this
      refine (Tryz.strconv_Atoi_err s h18 ha _ w hS (.inr ⟨u,x,rfl⟩)).mono ?_
      rintro e w' ⟨N,he,_,_,hw⟩
      exact ⟨_,_,he,hw,.inr ⟨⟨_,_,rfl⟩,none'⟩⟩
  · have long:∀ n:Int, -999999999999≤n→n≤999999999999→itoaB n ≠ s:=fun n h1 h2=>itoaB_long (by omega) h1 h2
    rcases ha:Lib.atoiAll s.data.toList with v|_|_
    ·
      refine (Tryz.strconv_Atoi_ok s (by omega) v ha w).mono ?_
      rintro e w' ⟨he,hw⟩
      refine ⟨v,.nilIface,he,?_,.inl ⟨rfl,fun m h1 h2 hm=>absurd hm (long m h1 h2)⟩⟩
      rcases hw with hw|⟨t,hw⟩
      · rw [hw];exact Below.refl _ _
      · rw [hw];exact bytesW_below _ _ _
    ·
      refine (Tryz.strconv_Atoi_syntax s hs ha _ w hS (.inr ⟨u,x,rfl⟩)).mono ?_
      rintro e w' ⟨N,he,_,_,hw⟩
      exact ⟨_,_,he,hw,.inr ⟨⟨_,_,rfl⟩,long⟩⟩
    ·
      refine (Tryz.strconv_Atoi_range s hs ha _ w hR (.inr ⟨u',x',rfl⟩)).mono ?_
      rintro e w' ⟨N,he,_,_,hw⟩
      exact ⟨_,_,he,hw,.inr ⟨⟨_,_,rfl⟩,long⟩⟩
theorem itoaC (n:Int) (h0:-9223372036854775808≤n) (h1:n≤9223372036854775807) (w:World) (htab:Lib.TabIs Tryz.prog w "internal/strconv.uint64pow10" .u64 Lib.pow10Tab) :
    Calls Tryz.prog 142 #[.int .i64 n] w fun e w' => e=.returned (.string (itoaB n))∧Below w.heap.size w w' :=
  (Tryz.strconv_Itoa n h0 h1 w htab).mono fun e w' ⟨he,k,os,hw⟩=>⟨he,hw ▸ Lib.below_grow w.heap.size w (Nat.le_refl _) k os⟩
set_option maxHeartbeats 1000000 in
theorem implParse (s:ByteArray) (lo hi:Int) (hs:s.size≤281474976710656) (hlo:-999999999999≤lo) (hhi:hi≤999999999999) (w:World) (hS:gE w 3) (hR:gE w 4)
    (htab:∀ w',Below w.heap.size w w' → Lib.TabIs Tryz.prog w' "internal/strconv.uint64pow10" .u64 Lib.pow10Tab) :
    Calls Tryz.prog 126 #[.string s,.int .i64 lo,.int .i64 hi] w fun e w' => e=.returned (.tuple #[.int .i64 (prs lo hi s).1,.bool (prs lo hi s).2])∧Below w.heap.size w w' := by
  have HX:=Lib.hid (atoiC s hs w hS hR)
  have HT:=Lib.hid htab
  clear hS hR htab
  go_enter Tryz.func126,Tryz.ntmps126
  go_wp2_with fail
  refine HX.out.mono ?_
  rintro e w1 ⟨v,ev,rfl,hb1,⟨rfl,hv⟩|⟨⟨t,p,rfl⟩,hn⟩⟩
  · by_cases h1:v < lo
    · have hp:prs lo hi s=(0,false):=prs_no fun n h3 h4 h5=>by have:=hv n (by omega) (by omega) h5;omega
      go_wp2
      go_ret2
      rw [hp]
      exact ⟨rfl,hb1⟩
    by_cases h2:v > hi
    · have hp:prs lo hi s=(0,false):=prs_no fun n h3 h4 h5=>by have:=hv n (by omega) (by omega) h5;omega
      go_wp2
      go_ret2
      rw [hp]
      exact ⟨rfl,hb1⟩
    have HI:=Lib.hid (itoaC v (by omega) (by omega) w1 (HT.out w1 hb1))
    have HV:=Lib.hid hv
    have HB:=Lib.hid hb1
    clear hv HT HX hb1
    by_cases h3:(itoaB v).toList=s.toList
    · have hp:prs lo hi s=(v,true):=prs_yes (by omega) (by omega) ((str_inj _ _).mp h3)
      have HP:=Lib.hid hp
      clear hp
      go_wp2_with (first|(go_at_call 142;refine HI.out.mono ?_;rintro e w2 ⟨rfl,hb2⟩))
      go_ret2
      rw [HP.out]
      exact ⟨rfl,HB.out.trans (hb2.mono HB.out.size)⟩
    · have hp:prs lo hi s=(0,false):=prs_no fun n h4 h5 h6=>by
        have:=HV.out n (by omega) (by omega) h6
        subst this
        exact h3 (by rw [h6])
      have HP:=Lib.hid hp
      clear hp
      go_wp2_with (first|(go_at_call 142;refine HI.out.mono ?_;rintro e w2 ⟨rfl,hb2⟩))
      · go_ret2
        rw [HP.out]
        exact ⟨rfl,HB.out.trans (hb2.mono HB.out.size)⟩
      · rename_i hh
        exact absurd (eq_of_beq (show ((itoaB v).toList == s.toList)=true by simpa using hh.2)) h3
  · go_wp2
    go_ret2
    rw [prs_no fun n h1 h2=>hn n (by omega) (by omega)]
    exact ⟨rfl,hb1⟩
namespace Ab
theorem glE {w:World} {X:Nat→Prop} (h:GlR T w X) {g:Nat} (hg:(g,true) ∈ T.ifs):gE w g:=by
  obtain ⟨_,_,u,h1,t,x,rfl⟩:=h.2 _ hg
  exact ⟨t,x,h1⟩
theorem FOk.flat2 {P:Program} {T:Tab} {f:FuncId} {s:FSpec} (hcall:∀ args w,(callFunc f args).run P w=.ok (.enter f args) w) (hbx:s.bx=false) (h:∀ (w:World) (X:Nat→Prop) (args:List SV) (vals:List Value),ArgsR T w X vals args→GlR T w X→s.pre args →
    ∃ (c d:CV) (u v:Value),s.res args=.tup [(false,[c]),(false,[d])]∧(∀ w' X',ArgC T w' X' u c∧ArgC T w' X' v d)∧Calls P f vals.toArray w fun e w' => e=.returned (.tuple #[u,v])∧Below w.heap.size w w'):FOk P T f s:=by
  refine ⟨hcall,fun hb=>(by rw [hbx] at hb;cases hb),fun _ w X args vals hX hargs hgl hpre=>?_,fun hb=>(by rw [hbx] at hb;cases hb)⟩
  obtain ⟨c,d,u,v,h1,h2,h3⟩:=h w X args vals hargs hgl hpre
  refine h3.mono fun e w' ⟨he,hb⟩=>⟨_,fun _=>noB,he,hb,?_,(fun j b h=>by cases h),(fun j j2 b h=>by cases h)⟩
  rw [h1]
  refine ⟨[u,v],rfl,rfl,fun j p x hp hx=>?_⟩
  match j with
  | 0 =>
    obtain rfl:=Option.some.inj hp
    obtain rfl:=Option.some.inj hx
    exact TupR.of_arg ⟨c,rfl,(h2 w' _).1⟩
  | 1 =>
    obtain rfl:=Option.some.inj hp
    obtain rfl:=Option.some.inj hx
    exact TupR.of_arg ⟨d,rfl,(h2 w' _).2⟩
  | j+2=>simp at hp
theorem ArgsR.three_ {T:Tab} {w:World} {X:Nat→Prop} {vals:List Value} {c d e:CV} (h:ArgsR T w X vals [.val false [c],.val false [d],.val false [e]]):∃ v u x,vals=[v,u,x]∧ArgC T w X v c∧ArgC T w X u d∧ArgC T w X x e:=by
  obtain ⟨h1,h2⟩:=h
  match vals,h1 with
  | [v,u,x],_ =>
    obtain ⟨c',e1,hc⟩:=h2 0 _ v rfl rfl
    obtain rfl:c=c' := by simpa using e1
    obtain ⟨d',e2,hd⟩:=h2 1 _ u rfl rfl
    obtain rfl:d=d' := by simpa using e2
    obtain ⟨e',e3,he⟩:=h2 2 _ x rfl rfl
    obtain rfl:e=e' := by simpa using e3
    exact ⟨v,u,x,rfl,hc,hd,he⟩
theorem inK_small {n:Int} (h1:-999999999999≤n) (h2:n≤999999999999):inK .i64 n:=by
  have h3:IntKind.i64.min = -9223372036854775808:=by decide
  have h4:IntKind.i64.max=9223372036854775807:=by decide
  rw [inK,h3,h4]
  omega
theorem prs_small {lo hi:Int} (hlo:-999999999999≤lo) (hhi:hi≤999999999999) (s:ByteArray):inK .i64 (prs lo hi s).1:=by
  by_cases hx:∃ n:Int,lo≤n∧n≤hi∧itoaB n=s
  · obtain ⟨n,h3,h4,h5⟩:=hx
    rw [prs_yes h3 h4 h5]
    exact inK_small (by omega) (by omega)
  · rw [prs_no fun n h3 h4 h5=>hx ⟨n,h3,h4,h5⟩]
    exact inK_small (by decide) (by decide)
theorem okParse:FOk Tryz.prog T 126 spPar:=FOk.flat2 Tryz.call126 rfl fun w X args vals hargs hgl hpre=>by
  obtain ⟨s,lo,hi,hs,hlo,hhi,rfl⟩:=hpre
  obtain ⟨v,u,x,rfl,⟨rfl,_⟩,⟨rfl,_⟩,⟨rfl,_⟩⟩:=hargs.three_
  refine ⟨_,_,_,_,rfl,fun w' X' => ⟨⟨rfl,prs_small hlo hhi s⟩,rfl⟩,implParse s lo hi hs hlo hhi w (glE hgl (by decide)) (glE hgl (by decide)) fun w' hb=>?_⟩
  exact tab_pow (X:=X) (hgl.move ⟨hb.size,fun b h _=>hb.block b h⟩ fun _ _ h=>h)
end Ab
end Go.Proofs.YtkpnfbdoaljkpaaGreatDoor
namespace Go.Proofs.YtkpnfbdoaljkpaaGreatDoor.Ab
open Go.RowKit
set_option linter.unusedVariables false
set_option linter.unusedSimpArgs false
set_option maxRecDepth 100000
theorem ok119:FOk Tryz.prog T 119 (spPrs (-999999999999) 999999999999):=by
  refine fok (env:=envL [(165,spRead)]) (N:=8) tabT (envL_cons ok165 envL_nil) mixed Tryz.func119 rfl Tryz.call119 Tryz.ntmps119 ?_
  rintro args ⟨s,hs,rfl⟩ hwf
  refine ⟨by simp,?_⟩
  clear hwf
  rw [Tryz.results119]
  repeat' first
    | (refine And.intro ?_ ?_)
    | (intro h;simp only [reduceCtorEq] at h;done)
    | (intro h;rw [h])
    | (intro h)
  all_goals first
    | (show lowEdges _=true;kernel_rfl)|(show logOk _ _=true;kernel_rfl)|exact True.intro|exact Or.inr rfl|exact Or.inl rfl
    | exact rfl
    | exact ⟨_,rfl⟩
    | skip
theorem ok155:FOk Tryz.prog T 155 (spPrs (-999999999999) 999999999999):=by
  refine fok (env:=envL [(126,spPar)]) (N:=13) tabT (envL_cons okParse envL_nil) mixed Tryz.func155 rfl Tryz.call155 Tryz.ntmps155 ?_
  rintro args ⟨s,hs,rfl⟩ hwf
  refine ⟨by simp,?_⟩
  clear hwf
  rw [Tryz.results155]
  repeat' first
    | (refine And.intro ?_ ?_)
    | (intro h;simp only [reduceCtorEq] at h;done)
    | (intro h;rw [h])
    | (intro h)
  all_goals first
    | (show lowEdges _=true;kernel_rfl)|(show logOk _ _=true;kernel_rfl)|exact True.intro|exact Or.inr rfl|exact Or.inl rfl
    | exact rfl
    | exact ⟨_,rfl⟩
    | exact ⟨_,_,_,hs,by decide,by decide,rfl⟩
    | skip
theorem ok64:FOk Tryz.prog T 64 (spSplit true):=by
  refine fok (env:=envL []) (N:=36) tabT envL_nil mixed Tryz.func64 rfl Tryz.call64 Tryz.ntmps64 ?_
  rintro args ⟨s,hs,rfl⟩ hwf
  refine ⟨by simp,?_⟩
  clear hwf
  rw [Tryz.results64]
  repeat' first
    | (refine And.intro ?_ ?_)
    | (intro h;simp only [reduceCtorEq] at h;done)
    | (intro h;rw [h])
    | (intro h)
  all_goals first
    | (show lowEdges _=true;kernel_rfl)|(show logOk _ _=true;kernel_rfl)|exact True.intro|exact Or.inr rfl|exact Or.inl rfl
    | exact rfl
    | skip
  refine awp_loop (Q:=_) [0,1,5,6,7] [] (fun n st=>∃ (o:List ByteArray) (fr i:Nat),st=([sArg s,.val false [.i .u8 32],.val false [.sl true 9 (strRows o)],iArg (fr:Int),iArg (i:Int)],[])∧SpI s o fr i∧n=s.size+1 - i) ?_ ?_
  · exact ⟨rfl,s.size+1,[],0,0,rfl,SpI.zero s,rfl⟩
  rintro n st ⟨o,fr,i,rfl,hI,rfl⟩
  repeat' first
    | (refine And.intro ?_ ?_)
    | (intro h;simp only [reduceCtorEq] at h;done)
    | (intro h;rw [h])
    | (intro h)
  all_goals first
    | (show lowEdges _=true;kernel_rfl)|(show logOk _ _=true;kernel_rfl)|exact True.intro|exact Or.inr rfl|exact Or.inl rfl
    | with_reducible exact Int.natCast_nonneg _
    | (have hd:decide ((i:Int)≤(s.size:Int))=true:=by with_reducible assumption
       have hle:i≤s.size:=by have:=of_decide_eq_true hd;omega
       have hl:=hI.le hle
       first
         | omega
         | (show (strRows o).length+1≤maxLen;rw [strRows,List.length_map];simp only [maxLen];omega)
         | (show ((strRows o).length+1) * 16≤140737488355328;rw [strRows,List.length_map];omega)
         | (have he:((i:Int) == (s.size:Int))=true:=by with_reducible assumption
            have hi:i=s.size:=by have:=eq_of_beq he;omega
            refine ⟨s.size+1 - (i+1),by omega,o++[s.extract fr i],i+1,i+1,?_,hI.full hi,rfl⟩
            exact snap3 (f:=fun x y z=>(([sArg s,.val false [.i .u8 32],.val false [.sl true 9 x],iArg y,iArg z],[]):Snap)) (strRows_app _ _) (IntWalk.i64_in _ (by omega)) (IntWalk.i64_in _ (by omega)))
         | (have he:((i:Int) == (s.size:Int))=false:=by with_reducible assumption
            have hi:i < s.size:=by have h2:(i:Int) ≠ (s.size:Int):=(by simpa using he);omega
            first
              | omega
              | (have hb:=(byte_of (s:=s) (i:=i) (by with_reducible assumption)).1 rfl
                 refine ⟨s.size+1 - (i+1),by omega,o++[s.extract fr i],i+1,i+1,?_,hI.space hi hb,rfl⟩
                 exact snap3 (f:=fun x y z=>(([sArg s,.val false [.i .u8 32],.val false [.sl true 9 x],iArg y,iArg z],[]):Snap)) (strRows_app _ _) (IntWalk.i64_in _ (by omega)) (IntWalk.i64_in _ (by omega)))
              | (have hb:=(byte_of (s:=s) (i:=i) (by with_reducible assumption)).2 rfl
                 refine ⟨s.size+1 - (i+1),by omega,o,fr,i+1,?_,hI.miss hi hb,rfl⟩
                 exact snap3 (f:=fun x y z=>(([sArg s,.val false [.i .u8 32],.val false [.sl true 9 x],iArg y,iArg z],[]):Snap)) rfl rfl (IntWalk.i64_in _ (by omega)))
              | (show Alive [] _;exact rfl)
              | skip)
         | (show Alive [] _;exact rfl)
         | skip)
    | (have hd:decide ((i:Int)≤(s.size:Int))=false:=by with_reducible assumption
       have hle:¬ i≤s.size:=by have:=of_decide_eq_false hd;omega
       exact congrArg (fun z=>[CV.sl true 9 (strRows z)]) (hI.done hle))
    | skip
end Go.Proofs.YtkpnfbdoaljkpaaGreatDoor.Ab
