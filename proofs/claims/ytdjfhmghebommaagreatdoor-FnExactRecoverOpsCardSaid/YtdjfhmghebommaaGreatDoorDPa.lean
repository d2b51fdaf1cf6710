/- A part. -/
import Derived.Test.YtdjfhmghebommaaGreatDoorDFq
namespace Go.Proofs.YtdjfhmghebommaaGreatDoor.Ab
open Go.RowKit
set_option linter.all false
set_option maxRecDepth 100000
theorem ok74:FOk Tryz.prog T 74 vY:=by
 refine fok (env:=envL [(47,c7)]) (N:=63) tabT (ac ok47 af) mixed Tryz.func74 rfl Tryz.call74 Tryz.ntmps74 ?_
 rintro args ⟨s,rfl⟩ hwf
 have hs:s.size≤maxLen:=hwf _ (jcj ..) _ (jb6 _)
 clear hwf
 refine ⟨by simp,?_⟩
 rw [Tryz.results74]
 repeat' first
  | refine And.intro ?_ ?_
  | (intro h;simp only [reduceCtorEq] at h;done)
  | (intro h;rw [h])
  | intro h
 all_goals first
  | (show aa _=true;kernel_rfl)|(show am _ _=true;kernel_rfl)|exact True.intro|exact Or.inr rfl|exact Or.inl rfl
  | (with_reducible refine jbO (p:=(0:Int) < _) ?_;assumption)
  | (with_reducible refine jbO (p:=_ > (0:Int)) ?_;assumption)
  | (have hh:=tK (s:=s) (by with_reducible assumption) (by with_reducible assumption)
     with_reducible first
      | exact resP (cU (xz hh) (.inl (by with_reducible assumption)))
      | exact resP (cU (xz hh) (.inr (by with_reducible assumption))))
  | (have hh:=nv (s:=s) (by with_reducible assumption) (by with_reducible assumption)
     with_reducible first
      | exact resP (cU (jI hh) (.inl (by with_reducible assumption)))
      | exact resP (cU (jI hh) (.inr (by with_reducible assumption))))
  | (have hh:=tJ (s:=s) (by with_reducible assumption)
     with_reducible first
      | exact resP (cU (jI hh) (.inl (by with_reducible assumption)))
      | exact resP (cU (jI hh) (.inr (by with_reducible assumption))))
  | (exfalso;have h1:=jbZ (show decide ((s.size:Int) > 0)=false by with_reducible assumption);have h2:=jbZ (show decide ((s.size:Int) < 1)=false by with_reducible assumption);omega)
  | (have:=jbO (show decide ((s.size:Int) > 0)=true by with_reducible assumption);omega)
  | skip
 · have h45:=tK (s:=s) (by with_reducible assumption) (by with_reducible assumption)
   have htl:=xz h45
   have ht12:(s.extract (Int.toNat 1) (s.size:Int).toNat).size≤12:=by have:=jbZ (show decide (((s.extract (Int.toNat 1) (s.size:Int).toNat).size:Int) > 12)=false by with_reducible assumption);omega
   clear hs
   refine ap (Q:=_) [0,1,6,7,8,9] [] (fun n st=>∃ N i:Nat,st=([sArg s,iArg 12,.val false [.b true],sArg (s.extract (Int.toNat 1) (s.size:Int).toNat),iArg (N:Int),iArg (i:Int)],[])∧RI (s.extract (Int.toNat 1) (s.size:Int).toNat) N i∧n=(s.extract (Int.toNat 1) (s.size:Int).toNat).size - i) ?_ ?_
   · exact ⟨rfl,(s.extract (Int.toNat 1) (s.size:Int).toNat).size,0,0,rfl,RI.zero _,rfl⟩
   rintro n st ⟨N,i,rfl,hI,rfl⟩
   repeat' first
    | refine And.intro ?_ ?_
    | (intro h;simp only [reduceCtorEq] at h;done)
    | (intro h;rw [h])
    | intro h
   all_goals first
    | (show aa _=true;kernel_rfl)|(show am _ _=true;kernel_rfl)|exact True.intro|exact Or.inr rfl|exact Or.inl rfl
    | exact ⟨_,rfl⟩
    | with_reducible exact jb2 _
    | (have hi' : decide ((i:Int) < ((s.extract (Int.toNat 1) (s.size:Int).toNat).size:Int))=true:=by with_reducible assumption
       have hi:i < (s.extract (Int.toNat 1) (s.size:Int).toNat).size:=by have:=jbO hi';omega
       first
        | with_reducible exact jbO hi'
        | (show aT [] _;exact rfl)
        | (refine resP (gK htl hi (.inl (by with_reducible assumption)) _ _))
        | (refine resP (gK htl hi (.inr (by with_reducible assumption)) _ _))
        | (have hd:=wQ (t:=(s.extract (Int.toNat 1) (s.size:Int).toNat)) (i:=i) (by with_reducible assumption) (by with_reducible assumption)
           refine ⟨(s.extract (Int.toNat 1) (s.size:Int).toNat).size - (i+1),by omega,N * 10+(((s.extract (Int.toNat 1) (s.size:Int).toNat).data.getD i 0).toNat - 48),i+1,?_,hI.next hi hd.1 hd.2,rfl⟩
           exact jae (f:=fun x z=>(([sArg s,iArg 12,.val false [.b true],sArg (s.extract (Int.toNat 1) (s.size:Int).toNat),iArg x,iArg z],[]):Snap)) (hI.num hi ht12 hd.1 hd.2) (IntWalk.i64_in _ (by omega))))
    | (have hi' : decide ((i:Int) < ((s.extract (Int.toNat 1) (s.size:Int).toNat).size:Int))=false:=by with_reducible assumption
       have hi:¬ i < (s.extract (Int.toNat 1) (s.size:Int).toNat).size:=by have:=jbZ hi';omega
       have hN:=hI.small ht12
       have hd:=mX (n:=-(N:Int)) N hN (htl ▸ hI.all hi) (by rw [if_pos h45])
       have hn:IntKind.i64.wrap (0 - (N:Int)) = -(N:Int):=(IntWalk.i64_in _ (by omega)).trans (by omega)
       first
        | exact resP (mY hn hd (by with_reducible assumption))
        | exact resP (mZ hn hd (by with_reducible assumption)))
    | skip
 · have h45:=nv (s:=s) (by with_reducible assumption) (by with_reducible assumption)
   have htl:=jI h45
   have ht12:s.size≤12:=by have:=jbZ (show decide ((s.size:Int) > 12)=false by with_reducible assumption);omega
   clear hs
   refine ap (Q:=_) [0,1,6,7,8,9] [] (fun n st=>∃ N i:Nat,st=([sArg s,iArg 12,.val false [.b false],sArg s,iArg (N:Int),iArg (i:Int)],[])∧RI s N i∧n=s.size - i) ?_ ?_
   · exact ⟨rfl,s.size,0,0,rfl,RI.zero _,rfl⟩
   rintro n st ⟨N,i,rfl,hI,rfl⟩
   repeat' first
    | refine And.intro ?_ ?_
    | (intro h;simp only [reduceCtorEq] at h;done)
    | (intro h;rw [h])
    | intro h
   all_goals first
    | (show aa _=true;kernel_rfl)|(show am _ _=true;kernel_rfl)|exact True.intro|exact Or.inr rfl|exact Or.inl rfl
    | exact ⟨_,rfl⟩
    | with_reducible exact jb2 _
    | (have hi' : decide ((i:Int) < (s.size:Int))=true:=by with_reducible assumption
       have hi:i < s.size:=by have:=jbO hi';omega
       first
        | with_reducible exact jbO hi'
        | (show aT [] _;exact rfl)
        | (refine resP (gK htl hi (.inl (by with_reducible assumption)) _ _))
        | (refine resP (gK htl hi (.inr (by with_reducible assumption)) _ _))
        | (have hd:=wQ (t:=s) (i:=i) (by with_reducible assumption) (by with_reducible assumption)
           refine ⟨s.size - (i+1),by omega,N * 10+((s.data.getD i 0).toNat - 48),i+1,?_,hI.next hi hd.1 hd.2,rfl⟩
           exact jae (f:=fun x z=>(([sArg s,iArg 12,.val false [.b false],sArg s,iArg x,iArg z],[]):Snap)) (hI.num hi ht12 hd.1 hd.2) (IntWalk.i64_in _ (by omega))))
    | (have hi' : decide ((i:Int) < (s.size:Int))=false:=by with_reducible assumption
       have hi:¬ i < s.size:=by have:=jbZ hi';omega
       have hN:=hI.small ht12
       have hd:=mX (n:=(N:Int)) N hN (htl ▸ hI.all hi) (by rw [if_neg h45])
       have hn:(N:Int)=(N:Int):=rfl
       first
        | exact resP (mY hn hd (by with_reducible assumption))
        | exact resP (mZ hn hd (by with_reducible assumption)))
    | skip
end Go.Proofs.YtdjfhmghebommaaGreatDoor.Ab
namespace Go.Proofs.YtdjfhmghebommaaGreatDoor
open Go.ChangeShapes Go.WideShapes Go.ChangeAt Go.RowKit Ab
set_option linter.all false
set_option maxRecDepth 200000
abbrev gE (w:World) (g:Nat):Prop:=∃ u x,w.cell? ⟨g,0,none⟩=some (.iface u x)
theorem atoiC (s:ByteArray) (hs:s.size≤281474976710656) (w:World) (hS:gE w 3) (hR:gE w 4) :
 Calls Tryz.prog 91 #[.string s] w fun e w' => ∃ v ev,e=.returned (.tuple #[.int .i64 v,ev])∧Below w.heap.size w w' ∧
  ((ev=.nilIface∧∀ n:Int, -999999999999≤n→n≤999999999999→aH n=s→v=n)∨((∃ t p,ev=.iface t p)∧∀ n:Int, -999999999999≤n→n≤999999999999→aH n ≠ s)):=by
 obtain ⟨u,x,hS⟩:=hS
 obtain ⟨u',x',hR⟩:=hR
 have back:∀ n:Int,aH n=s→Lib.atoi s.data.toList=some n:=fun n h=>by rw [← h,bn,nT]
 by_cases h18:s.size≤18
 · cases ha:Lib.atoi s.data.toList with
   | some n =>
     have uniq:∀ m:Int, -999999999999≤m→m≤999999999999→aH m=s→n=m:=fun m _ _ hm=>jbR (ha.symm.trans (back m hm))
     refine (Tryz.strconv_Atoi s n h18 ha w).mono ?_
     rintro e w' ⟨he,t,hw⟩
     refine ⟨n,.nilIface,he,?_,.inl ⟨rfl,uniq⟩⟩
     rw [hw]
     exact fg _ _ _
   | none =>
     have none' : ∀ m:Int, -999999999999≤m→m≤999999999999→aH m ≠ s:=fun m _ _ hm=>by have:=ha.symm.trans (back m hm);cases this
     refine (Tryz.strconv_Atoi_err s h18 ha _ w hS (.inr ⟨u,x,rfl⟩)).mono ?_
     rintro e w' ⟨N,he,_,_,hw⟩
     exact ⟨_,_,he,hw,.inr ⟨⟨_,_,rfl⟩,none'⟩⟩
 · have long:∀ n:Int, -999999999999≤n→n≤999999999999→aH n ≠ s:=fun n h1 h2=>qX (by omega) h1 h2
   rcases ha:Lib.atoiAll s.data.toList with v|_|_
   ·
    refine (Tryz.strconv_Atoi_ok s (by omega) v ha w).mono ?_
    rintro e w' ⟨he,hw⟩
    refine ⟨v,.nilIface,he,?_,.inl ⟨rfl,fun m h1 h2 hm=>absurd hm (long m h1 h2)⟩⟩
    rcases hw with hw|⟨t,hw⟩
    · rw [hw];exact Below.refl _ _
    · rw [hw];exact fg _ _ _
   ·
    refine (Tryz.strconv_Atoi_syntax s hs ha _ w hS (.inr ⟨u,x,rfl⟩)).mono ?_
    rintro e w' ⟨N,he,_,_,hw⟩
    exact ⟨_,_,he,hw,.inr ⟨⟨_,_,rfl⟩,long⟩⟩
   ·
    refine (Tryz.strconv_Atoi_range s hs ha _ w hR (.inr ⟨u',x',rfl⟩)).mono ?_
    rintro e w' ⟨N,he,_,_,hw⟩
    exact ⟨_,_,he,hw,.inr ⟨⟨_,_,rfl⟩,long⟩⟩
theorem itoaC (n:Int) (h0:-9223372036854775808≤n) (h1:n≤9223372036854775807) (w:World) (htab:Lib.TabIs Tryz.prog w "internal/strconv.uint64pow10" .u64 Lib.pow10Tab) :
 Calls Tryz.prog 92 #[.int .i64 n] w fun e w' => e=.returned (.string (aH n))∧Below w.heap.size w w' :=
 (Tryz.strconv_Itoa n h0 h1 w htab).mono fun e w' ⟨he,k,os,hw⟩=>⟨he,hw ▸ Lib.below_grow w.heap.size w (jb4 _) k os⟩
set_option maxHeartbeats 1000000 in
theorem tF (s:ByteArray) (lo hi:Int) (hs:s.size≤281474976710656) (hlo:-999999999999≤lo) (hhi:hi≤999999999999) (w:World) (hS:gE w 3) (hR:gE w 4)
 (htab:∀ w',Below w.heap.size w w' → Lib.TabIs Tryz.prog w' "internal/strconv.uint64pow10" .u64 Lib.pow10Tab) :
 Calls Tryz.prog 51 #[.string s,.int .i64 lo,.int .i64 hi] w fun e w' => e=.returned (.tuple #[.int .i64 (prs lo hi s).1,.bool (prs lo hi s).2])∧Below w.heap.size w w' := by
 have HX:=Lib.hid (atoiC s hs w hS hR)
 have HT:=Lib.hid htab
 clear hS hR htab
 go_enter Tryz.func51,Tryz.ntmps51
 go_wp2_with fail
 refine HX.out.mono ?_
 rintro e w1 ⟨v,ev,rfl,hb1,⟨rfl,hv⟩|⟨⟨t,p,rfl⟩,hn⟩⟩
 · by_cases h1:v < lo
   · have hp:prs lo hi s=(0,false):=fG fun n h3 h4 h5=>by have:=hv n (by omega) (by omega) h5;omega
     go_wp2
     go_ret2
     rw [hp]
     exact ⟨rfl,hb1⟩
   by_cases h2:v > hi
   · have hp:prs lo hi s=(0,false):=fG fun n h3 h4 h5=>by have:=hv n (by omega) (by omega) h5;omega
     go_wp2
     go_ret2
     rw [hp]
     exact ⟨rfl,hb1⟩
   have HI:=Lib.hid (itoaC v (by omega) (by omega) w1 (HT.out w1 hb1))
   have HV:=Lib.hid hv
   have HB:=Lib.hid hb1
   clear hv HT HX hb1
   by_cases h3:(aH v).toList=s.toList
   · have hp:prs lo hi s=(v,true):=eV (by omega) (by omega) ((aS _ _).mp h3)
     have HP:=Lib.hid hp
     clear hp
     go_wp2_with (first|(go_at_call 92;refine HI.out.mono ?_;rintro e w2 ⟨rfl,hb2⟩))
     go_ret2
     rw [HP.out]
     exact ⟨rfl,HB.out.trans (hb2.mono HB.out.size)⟩
   · have hp:prs lo hi s=(0,false):=fG fun n h4 h5 h6=>by
      have:=HV.out n (by omega) (by omega) h6
      subst this
      exact h3 (by rw [h6])
     have HP:=Lib.hid hp
     clear hp
     go_wp2_with (first|(go_at_call 92;refine HI.out.mono ?_;rintro e w2 ⟨rfl,hb2⟩))
     · go_ret2
       rw [HP.out]
       exact ⟨rfl,HB.out.trans (hb2.mono HB.out.size)⟩
     · rename_i hh
       exact absurd (eq_of_beq (show ((aH v).toList == s.toList)=true by simpa using hh.2)) h3
 · go_wp2
   go_ret2
   rw [fG fun n h1 h2=>hn n (by omega) (by omega)]
   exact ⟨rfl,hb1⟩
namespace Ab
theorem glE {w:World} {X:Nat→Prop} (h:GlR T w X) {g:Nat} (hg:(g,true) ∈ T.ifs):gE w g:=by
 obtain ⟨_,_,u,h1,t,x,rfl⟩:=h.2 _ hg
 exact ⟨t,x,h1⟩
theorem FOk.flat2 {P:Program} {T:Tab} {f:FuncId} {s:FSpec} (hcall:∀ args w,(callFunc f args).run P w=.ok (.enter f args) w) (hbx:s.bx=false) (h:∀ (w:World) (X:Nat→Prop) (args:List SV) (vals:List Value),ArgsR T w X vals args→GlR T w X→s.pre args →
 ∃ (c d:CV) (u v:Value),s.res args=.tup [(false,[c]),(false,[d])]∧(∀ w' X',ArgC T w' X' u c∧ArgC T w' X' v d)∧Calls P f vals.toArray w fun e w' => e=.returned (.tuple #[u,v])∧Below w.heap.size w w'):FOk P T f s:=by
 refine ⟨hcall,fun hb=>(by rw [hbx] at hb;cases hb),fun _ w X args vals hX hargs hgl hpre=>?_,fun hb=>(by rw [hbx] at hb;cases hb)⟩
 obtain ⟨c,d,u,v,h1,h2,h3⟩:=h w X args vals hargs hgl hpre
 refine h3.mono fun e w' ⟨he,hb⟩=>⟨_,fun _=>noB,he,hb,?_,(fun j b h=>by cases h),(fun j j2 b h=>by cases h)⟩
 rw [h1]
 refine ⟨[u,v],rfl,rfl,fun j p x hp hx=>?_⟩
 match j with
 | 0 =>
   obtain rfl:=jbR hp
   obtain rfl:=jbR hx
   exact TupR.of_arg ⟨c,rfl,(h2 w' _).1⟩
 | 1 =>
   obtain rfl:=jbR hp
   obtain rfl:=jbR hx
   exact TupR.of_arg ⟨d,rfl,(h2 w' _).2⟩
 | j+2=>simp at hp
theorem ArgsR.three_ {T:Tab} {w:World} {X:Nat→Prop} {vals:List Value} {c d e:CV} (h:ArgsR T w X vals [.val false [c],.val false [d],.val false [e]]):∃ v u x,vals=[v,u,x]∧ArgC T w X v c∧ArgC T w X u d∧ArgC T w X x e:=by
 obtain ⟨h1,h2⟩:=h
 match vals,h1 with
 | [v,u,x],_ =>
   obtain ⟨c',e1,hc⟩:=h2 0 _ v rfl rfl
   obtain rfl:c=c' := by simpa using e1
   obtain ⟨d',e2,hd⟩:=h2 1 _ u rfl rfl
   obtain rfl:d=d' := by simpa using e2
   obtain ⟨e',e3,he⟩:=h2 2 _ x rfl rfl
   obtain rfl:e=e' := by simpa using e3
   exact ⟨v,u,x,rfl,hc,hd,he⟩
theorem np {n:Int} (h1:-999999999999≤n) (h2:n≤999999999999):inK .i64 n:=by
 have h3:IntKind.i64.min = -9223372036854775808:=by decide
 have h4:IntKind.i64.max=9223372036854775807:=by decide
 rw [inK,h3,h4]
 omega
theorem sX {lo hi:Int} (hlo:-999999999999≤lo) (hhi:hi≤999999999999) (s:ByteArray):inK .i64 (prs lo hi s).1:=by
 by_cases hx:∃ n:Int,lo≤n∧n≤hi∧aH n=s
 · obtain ⟨n,h3,h4,h5⟩:=hx
   rw [eV h3 h4 h5]
   exact np (by omega) (by omega)
 · rw [fG fun n h3 h4 h5=>hx ⟨n,h3,h4,h5⟩]
   exact np (by decide) (by decide)
theorem okParse:FOk Tryz.prog T 51 xJ:=FOk.flat2 Tryz.call51 rfl fun w X args vals hargs hgl hpre=>by
 obtain ⟨s,lo,hi,hs,hlo,hhi,rfl⟩:=hpre
 obtain ⟨v,u,x,rfl,⟨rfl,_⟩,⟨rfl,_⟩,⟨rfl,_⟩⟩:=hargs.three_
 refine ⟨_,_,_,_,rfl,fun w' X' => ⟨⟨rfl,sX hlo hhi s⟩,rfl⟩,tF s lo hi hs hlo hhi w (glE hgl (by decide)) (glE hgl (by decide)) fun w' hb=>?_⟩
 exact rH (X:=X) (hgl.move ⟨hb.size,fun b h _=>hb.block b h⟩ fun _ _ h=>h)
theorem okDecS:FOk Tryz.prog T 42 uT:=FOk.flat2 Tryz.call42 rfl fun w X args vals hargs hgl hpre=>by
 obtain ⟨s,hs,rfl⟩:=hpre
 obtain ⟨v,rfl,rfl,_⟩:=hargs.one_
 exact ⟨_,_,_,_,rfl,fun w' X' => ⟨⟨rfl,jbV (mw s) (jbV hs (by decide))⟩,rfl⟩,xG s w hs⟩
theorem okDecI:FOk Tryz.prog T 53 uT:=FOk.flat2 Tryz.call53 rfl fun w X args vals hargs hgl hpre=>by
 obtain ⟨s,hs,rfl⟩:=hpre
 obtain ⟨v,rfl,rfl,_⟩:=hargs.one_
 obtain ⟨u,x,hE⟩:=glE hgl (g:=2) (by decide)
 exact ⟨_,_,_,_,rfl,fun w' X' => ⟨⟨rfl,jbV (mw s) (jbV hs (by decide))⟩,rfl⟩,yB s w u x hE hs⟩
theorem okSplit2:FOk Tryz.prog T 50 pE:=by
 refine ⟨Tryz.call50,fun hb=>(by cases hb),fun _ w X args vals hX hargs hgl hpre=>?_,fun hb=>(by cases hb)⟩
 obtain ⟨s,hs,rfl⟩:=hpre
 obtain ⟨v,u,rfl,⟨rfl,_⟩,⟨rfl,_⟩⟩:=hargs.two_
 obtain ⟨_,_,u,hm,m,rfl⟩:=hgl.2 (0,false) (by decide)
 refine (Tryz.strings_Split s ⟨#[32]⟩ m w (by omega) hm (by decide)).mono ?_
 rintro e w' ⟨he,hw⟩
 have hl:=Lib.splitB_all ⟨#[32]⟩ (by decide) 0 _ s rfl
 rw [fS _ s (jb4 _)] at hw hl
 have hle:=Lib.countB_le ⟨#[32]⟩ (by decide) s.size s (jb4 _)
 refine ⟨_,fun _=>noB,he,?_,?_,(fun j b h=>by cases h),(fun j j2 b h=>by cases h)⟩
 · rw [hw];exact (Below.refl _ _).alloc (jb4 _) _
 have hn:(aj s).length=(az s.data.toList).length:=by simp [aj]
 have hrl:(ae (aj s)).length=(aj s).length:=by simp [ae]
 have hcell:∀ k x,(aj s)[k]? = some x→w'.cell? ⟨w.heap.size,k,none⟩=some (.string x):=fun k x hx=>by
  have hb:w'.heap[w.heap.size]? = some (.cells ((aj s).map Value.string).toArray 9 (0,0)):=by rw [hw];exact heap_alloc_new w _
  have hc:w'.cell? ⟨w.heap.size,k,none⟩=((aj s).map Value.string).toArray[k]? := by unfold World.cell?;rw [hb];rfl
  rw [hc,List.getElem?_toArray,jcf,hx]
  rfl
 have hsz:∀ x ∈ aj s,x.size≤maxLen:=fun x hx=>jbV (dO hx) (jbV hs (by decide))
 refine ⟨_,rfl,?_⟩
 show RdR T w' _ (.l 9) _ (.l (ae (aj s)))
 rw [show Lib.countB s ⟨#[32]⟩+1=(ae (aj s)).length by omega]
 refine .sl 9 _ _ 0 _ _ (fun k _=>((aj s)[k]?).elim undef Value.string) (show T 9=some _ from rfl) (jb4 _) (by simp only [maxLen];omega) ?_ ?_ (fun k j hk hj=>?_) (fun k row hk=>?_) (fun k j ct d row hk hct hd=>?_)
 · rintro (h|⟨j,h⟩)
   · exact absurd (hX _ h) (Nat.lt_irrefl _)
   · cases h
 · rw [hw];exact (jcT.1 (heap_alloc_new w _)).1
 · have hk' : k < (aj s).length:=by omega
   obtain rfl:j=0:=by simpa using hj
   show w'.cell? ⟨w.heap.size,0+k * 1+0,none⟩=_
   rw [show 0+k * 1+0=k by omega]
   rw [hcell k _ (jbN hk'),jbN hk']
   rfl
 · simp only [ae,jcf] at hk
   cases hx:(aj s)[k]? with
   | none=>rw [hx] at hk;cases hk
   | some x=>rw [hx] at hk;obtain rfl:=jbR hk;rfl
 · simp only [ae,jcf] at hk
   cases hx:(aj s)[k]? with
   | none=>rw [hx] at hk;cases hk
   | some x =>
     rw [hx] at hk
     obtain rfl:=jbR hk
     obtain rfl:j=0:=by
      have:=(jbY.1 hd).1
      simpa using this
     obtain rfl:=jbR hct
     obtain rfl:=jbR hd
     exact .str x (hsz x (jb8 hx))
end Ab
end Go.Proofs.YtdjfhmghebommaaGreatDoor
namespace Go.Proofs.YtdjfhmghebommaaGreatDoor.Ab
open Go.RowKit
set_option linter.all false
set_option maxRecDepth 100000
theorem ok41:FOk Tryz.prog T 41 (ou (-999999999999) 999999999999):=by
 refine fok (env:=envL [(74,vY)]) (N:=8) tabT (ac ok74 af) mixed Tryz.func41 rfl Tryz.call41 Tryz.ntmps41 ?_
 rintro args ⟨s,hs,rfl⟩ hwf
 refine ⟨by simp,?_⟩
 clear hwf
 rw [Tryz.results41]
 repeat' first
  | refine And.intro ?_ ?_
  | (intro h;simp only [reduceCtorEq] at h;done)
  | (intro h;rw [h])
  | intro h
 all_goals first
  | (show aa _=true;kernel_rfl)|(show am _ _=true;kernel_rfl)|exact True.intro|exact Or.inr rfl|exact Or.inl rfl
  | exact rfl
  | exact ⟨_,rfl⟩
  | skip
theorem ok134:FOk Tryz.prog T 134 (ou (-999999999999) 999999999999):=by
 refine fok (env:=envL [(51,xJ)]) (N:=13) tabT (ac okParse af) mixed Tryz.func134 rfl Tryz.call134 Tryz.ntmps134 ?_
 rintro args ⟨s,hs,rfl⟩ hwf
 refine ⟨by simp,?_⟩
 clear hwf
 rw [Tryz.results134]
 repeat' first
  | refine And.intro ?_ ?_
  | (intro h;simp only [reduceCtorEq] at h;done)
  | (intro h;rw [h])
  | intro h
 all_goals first
  | (show aa _=true;kernel_rfl)|(show am _ _=true;kernel_rfl)|exact True.intro|exact Or.inr rfl|exact Or.inl rfl
  | exact rfl
  | exact ⟨_,rfl⟩
  | exact ⟨_,_,_,hs,by decide,by decide,rfl⟩
  | skip
theorem ok19:FOk Tryz.prog T 19 vW:=by
 refine fokB (env:=envL [(41,(ou (-999999999999) 999999999999))]) (N:=37) tabT (ac ok41 af) mixed Tryz.func19 rfl Tryz.call19 Tryz.ntmps19 ?_
 rintro cs args ⟨rows,k,hk,hs,he⟩ hwf
 simp only [jce,SV.tup.injEq,jci,true_and,and_true] at he
 obtain ⟨rfl,rfl⟩:=he
 refine ⟨by simp,?_⟩
 clear hwf
 rw [Tryz.results19]
 repeat' first
  | refine And.intro ?_ ?_
  | (intro h;simp only [reduceCtorEq] at h;done)
  | (intro h;rw [h])
  | intro h
 all_goals first
  | (show aa _=true;kernel_rfl)|(show am _ _=true;kernel_rfl)|exact True.intro|exact Or.inr rfl|exact Or.inl rfl
  | exact rfl
  | exact ⟨_,rfl⟩
  | exact jb2 _
  | exact jbO (show decide ((k:Int) < (rows.length:Int))=true by with_reducible assumption)
  | (have hd:=jbO (show decide ((k:Int) < (rows.length:Int))=true by with_reducible assumption);rw [jca];omega)
  | exact updK hk
  | (have hd:=jbO (show decide ((k:Int) < (rows.length:Int))=true by with_reducible assumption);exact ⟨_,jbV (hs _ (by rw [jca];omega)) (by decide),rfl⟩)
  | exact congrArg (fun z=>[CV.i .i64 z]) (vj (by with_reducible assumption))
  | exact congrArg (fun z=>[CV.i .i64 z]) (yc (by with_reducible assumption))
  | skip
theorem ok20:FOk Tryz.prog T 20 vU:=by
 refine fokB (env:=envL [(42,uT)]) (N:=37) tabT (ac okDecS af) mixed Tryz.func20 rfl Tryz.call20 Tryz.ntmps20 ?_
 rintro cs args ⟨rows,k,hk,hs,he⟩ hwf
 simp only [jce,SV.tup.injEq,jci,true_and,and_true] at he
 obtain ⟨rfl,rfl⟩:=he
 refine ⟨by simp,?_⟩
 clear hwf
 rw [Tryz.results20]
 repeat' first
  | refine And.intro ?_ ?_
  | (intro h;simp only [reduceCtorEq] at h;done)
  | (intro h;rw [h])
  | intro h
 all_goals first
  | (show aa _=true;kernel_rfl)|(show am _ _=true;kernel_rfl)|exact True.intro|exact Or.inr rfl|exact Or.inl rfl
  | exact rfl
  | exact ⟨_,rfl⟩
  | exact jb2 _
  | exact jbO (show decide ((k:Int) < (rows.length:Int))=true by with_reducible assumption)
  | (have hd:=jbO (show decide ((k:Int) < (rows.length:Int))=true by with_reducible assumption);rw [jca];omega)
  | exact updK hk
  | (have hd:=jbO (show decide ((k:Int) < (rows.length:Int))=true by with_reducible assumption);exact ⟨_,hs _ (by rw [jca];omega),rfl⟩)
  | exact congrArg (fun z=>[CV.s z]) (uH (by with_reducible assumption))
  | exact congrArg (fun z=>[CV.s z]) (xt (by with_reducible assumption))
  | skip
theorem ok52:FOk Tryz.prog T 52 rP:=by
 refine fokB (env:=envL []) (N:=28) tabT af mixed Tryz.func52 rfl Tryz.call52 Tryz.ntmps52 ?_
 rintro cs args ⟨rows,b,he⟩ hwf
 simp only [jce,SV.tup.injEq,jci,true_and,and_true] at he
 obtain ⟨rfl,rfl⟩:=he
 refine ⟨by simp,?_⟩
 clear hwf
 rw [Tryz.results52]
 repeat' first
  | refine And.intro ?_ ?_
  | (intro h;simp only [reduceCtorEq] at h;done)
  | (intro h;rw [h])
  | intro h
 all_goals first
  | (show aa _=true;kernel_rfl)|(show am _ _=true;kernel_rfl)|exact True.intro|exact Or.inr rfl|exact Or.inl rfl
  | exact rfl
  | exact ⟨_,rfl⟩
  | (have hh:=jbe (rows:=rows) (by with_reducible assumption);first|exact resS hh.1|exact updNo hh.2)
  | (have hh:=yD (rows:=rows) (by with_reducible assumption);first|omega|exact resS hh.1|exact zk hh.2)
  | skip
theorem ok24:FOk Tryz.prog T 24 rY:=by
 refine fokB (env:=envL [(52,rP),(51,xJ)]) (N:=22) tabT (ac ok52 (ac okParse af)) mixed Tryz.func24 rfl Tryz.call24 Tryz.ntmps24 ?_
 rintro cs args ⟨rows,b,hs,he⟩ hwf
 simp only [jce,SV.tup.injEq,jci,true_and,and_true] at he
 obtain ⟨rfl,rfl⟩:=he
 refine ⟨by simp,?_⟩
 clear hwf
 rw [Tryz.results24]
 repeat' first
  | refine And.intro ?_ ?_
  | (intro h;simp only [reduceCtorEq] at h;done)
  | (intro h;rw [h])
  | intro h
 all_goals first
  | (show aa _=true;kernel_rfl)|(show am _ _=true;kernel_rfl)|exact True.intro|exact Or.inr rfl|exact Or.inl rfl
  | exact rfl
  | exact ⟨_,rfl⟩
  | exact ⟨_,_,rfl⟩
  | exact ⟨_,_,_,jbV (mm hs) (by decide),by decide,by decide,rfl⟩
  | (refine updB ?_;simp_all [gP];done)
  | skip
theorem ok25:FOk Tryz.prog T 25 rR:=by
 refine fokB (env:=envL [(52,rP),(53,uT)]) (N:=22) tabT (ac ok52 (ac okDecI af)) mixed Tryz.func25 rfl Tryz.call25 Tryz.ntmps25 ?_
 rintro cs args ⟨rows,b,hs,he⟩ hwf
 simp only [jce,SV.tup.injEq,jci,true_and,and_true] at he
 obtain ⟨rfl,rfl⟩:=he
 refine ⟨by simp,?_⟩
 clear hwf
 rw [Tryz.results25]
 repeat' first
  | refine And.intro ?_ ?_
  | (intro h;simp only [reduceCtorEq] at h;done)
  | (intro h;rw [h])
  | intro h
 all_goals first
  | (show aa _=true;kernel_rfl)|(show am _ _=true;kernel_rfl)|exact True.intro|exact Or.inr rfl|exact Or.inl rfl
  | exact rfl
  | exact ⟨_,rfl⟩
  | exact ⟨_,_,rfl⟩
  | exact ⟨_,mm hs,rfl⟩
  | (refine updB ?_;simp_all;done)
  | skip
theorem ok18:FOk Tryz.prog T 18 (dT true):=by
 refine fok (env:=envL []) (N:=36) tabT af mixed Tryz.func18 rfl Tryz.call18 Tryz.ntmps18 ?_
 rintro args ⟨s,hs,rfl⟩ hwf
 refine ⟨by simp,?_⟩
 clear hwf
 rw [Tryz.results18]
 repeat' first
  | refine And.intro ?_ ?_
  | (intro h;simp only [reduceCtorEq] at h;done)
  | (intro h;rw [h])
  | intro h
 all_goals first
  | (show aa _=true;kernel_rfl)|(show am _ _=true;kernel_rfl)|exact True.intro|exact Or.inr rfl|exact Or.inl rfl
  | exact rfl
  | skip
 refine ap (Q:=_) [0,1,5,6,7] [] (fun n st=>∃ (o:List ByteArray) (fr i:Nat),st=([sArg s,.val false [.i .u8 32],.val false [.sl true 9 (ae o)],iArg (fr:Int),iArg (i:Int)],[])∧SpI s o fr i∧n=s.size+1 - i) ?_ ?_
 · exact ⟨rfl,s.size+1,[],0,0,rfl,SpI.zero s,rfl⟩
 rintro n st ⟨o,fr,i,rfl,hI,rfl⟩
 repeat' first
  | refine And.intro ?_ ?_
  | (intro h;simp only [reduceCtorEq] at h;done)
  | (intro h;rw [h])
  | intro h
 all_goals first
  | (show aa _=true;kernel_rfl)|(show am _ _=true;kernel_rfl)|exact True.intro|exact Or.inr rfl|exact Or.inl rfl
  | with_reducible exact jb2 _
  | (have hd:decide ((i:Int)≤(s.size:Int))=true:=by with_reducible assumption
     have hle:i≤s.size:=by have:=jbO hd;omega
     have hl:=hI.le hle
     first
      | omega
      | (show (ae o).length+1≤maxLen;rw [ae,jb0];simp only [maxLen];omega)
      | (show ((ae o).length+1) * 16≤140737488355328;rw [ae,jb0];omega)
      | (have he:((i:Int) == (s.size:Int))=true:=by with_reducible assumption
         have hi:i=s.size:=by have:=eq_of_beq he;omega
         refine ⟨s.size+1 - (i+1),by omega,o++[s.extract fr i],i+1,i+1,?_,hI.full hi,rfl⟩
         exact uU (f:=fun x y z=>(([sArg s,.val false [.i .u8 32],.val false [.sl true 9 x],iArg y,iArg z],[]):Snap)) (fK _ _) (IntWalk.i64_in _ (by omega)) (IntWalk.i64_in _ (by omega)))
      | (have he:((i:Int) == (s.size:Int))=false:=by with_reducible assumption
         have hi:i < s.size:=by have h2:(i:Int) ≠ (s.size:Int):=(by simpa using he);omega
         first
          | omega
          | (have hb:=(byte_of (s:=s) (i:=i) (by with_reducible assumption)).1 rfl
             refine ⟨s.size+1 - (i+1),by omega,o++[s.extract fr i],i+1,i+1,?_,hI.space hi hb,rfl⟩
             exact uU (f:=fun x y z=>(([sArg s,.val false [.i .u8 32],.val false [.sl true 9 x],iArg y,iArg z],[]):Snap)) (fK _ _) (IntWalk.i64_in _ (by omega)) (IntWalk.i64_in _ (by omega)))
          | (have hb:=(byte_of (s:=s) (i:=i) (by with_reducible assumption)).2 rfl
             refine ⟨s.size+1 - (i+1),by omega,o,fr,i+1,?_,hI.miss hi hb,rfl⟩
             exact uU (f:=fun x y z=>(([sArg s,.val false [.i .u8 32],.val false [.sl true 9 x],iArg y,iArg z],[]):Snap)) rfl rfl (IntWalk.i64_in _ (by omega)))
          | (show aT [] _;exact rfl)
          | skip)
      | (show aT [] _;exact rfl)
      | skip)
  | (have hd:decide ((i:Int)≤(s.size:Int))=false:=by with_reducible assumption
     have hle:¬ i≤s.size:=by have:=jbZ hd;omega
     exact congrArg (fun z=>[CV.sl true 9 (ae z)]) (hI.done hle))
  | skip
theorem ok23:FOk Tryz.prog T 23 (dT false):=by
 refine fok (env:=envL [(50,pE)]) (N:=10) tabT (ac okSplit2 af) mixed Tryz.func23 rfl Tryz.call23 Tryz.ntmps23 ?_
 rintro args ⟨s,hs,rfl⟩ hwf
 refine ⟨by simp,?_⟩
 clear hwf
 rw [Tryz.results23]
 repeat' first
  | refine And.intro ?_ ?_
  | (intro h;simp only [reduceCtorEq] at h;done)
  | (intro h;rw [h])
  | intro h
 all_goals first
  | (show aa _=true;kernel_rfl)|(show am _ _=true;kernel_rfl)|exact True.intro|exact Or.inr rfl|exact Or.inl rfl
  | exact rfl
  | exact ⟨_,rfl⟩
  | exact ⟨_,hs,rfl⟩
  | skip
end Go.Proofs.YtdjfhmghebommaaGreatDoor.Ab
