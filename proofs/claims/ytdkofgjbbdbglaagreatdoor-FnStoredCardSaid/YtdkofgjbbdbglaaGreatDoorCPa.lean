/- A part. -/
import Derived.Test.YtdkofgjbbdbglaaGreatDoorCFq
namespace Go.Proofs.YtdkofgjbbdbglaaGreatDoor.Ab
open Go.RowKit
set_option linter.all false
set_option maxRecDepth 100000
theorem ok123:FOk Tryz.prog T 123 xc:=by
 refine fok (env:=envL [(35,cu)]) (N:=63) tabT (aa ok35 ae) mixed Tryz.func123 rfl Tryz.call123 Tryz.ntmps123 ?_
 rintro args ⟨s,rfl⟩ hwf
 have hs:s.size≤maxLen:=hwf _ (jdB ..) _ (jdo _)
 clear hwf
 refine ⟨by simp,?_⟩
 rw [Tryz.results123]
 repeat' first
  | refine And.intro ?_ ?_
  | (intro h;simp only [reduceCtorEq] at h;done)
  | (intro h;rw [h])
  | intro h
 all_goals first
  | exact True.intro
  | exact Or.inr rfl
  | (with_reducible refine jc6 (p:=(0:Int) < _) ?_;assumption)
  | (have hh:=tW (s:=s) (by with_reducible assumption) (by with_reducible assumption)
     with_reducible first
      | exact resP (cQ (yD hh) (.inl (by with_reducible assumption)))
      | exact resP (cQ (yD hh) (.inr (by with_reducible assumption))))
  | (have hh:=ny (s:=s) (by with_reducible assumption) (by with_reducible assumption)
     with_reducible first
      | exact resP (cQ (jF hh) (.inl (by with_reducible assumption)))
      | exact resP (cQ (jF hh) (.inr (by with_reducible assumption))))
  | (have hh:=tV (s:=s) (by with_reducible assumption)
     with_reducible first
      | exact resP (cQ (jF hh) (.inl (by with_reducible assumption)))
      | exact resP (cQ (jF hh) (.inr (by with_reducible assumption))))
  | (exfalso;have h1:=jdh (show decide ((s.size:Int) > 0)=false by with_reducible assumption);have h2:=jdh (show decide ((s.size:Int) < 1)=false by with_reducible assumption);omega)
  | (have:=jc6 (show decide ((s.size:Int) > 0)=true by with_reducible assumption);omega)
  | skip
 · have h45:=tW (s:=s) (by with_reducible assumption) (by with_reducible assumption)
   have htl:=yD h45
   have ht12:(s.extract (Int.toNat 1) (s.size:Int).toNat).size≤12:=by have:=jdh (show decide (((s.extract (Int.toNat 1) (s.size:Int).toNat).size:Int) > 12)=false by with_reducible assumption);omega
   clear hs
   refine aj (Q:=_) [0,1,6,7,8,9] [] (fun n st=>∃ N i:Nat,st=([sArg s,iArg 12,.val false [.b true],sArg (s.extract (Int.toNat 1) (s.size:Int).toNat),iArg (N:Int),iArg (i:Int)],[])∧RI (s.extract (Int.toNat 1) (s.size:Int).toNat) N i∧n=(s.extract (Int.toNat 1) (s.size:Int).toNat).size - i) ?_ ?_
   · exact ⟨rfl,(s.extract (Int.toNat 1) (s.size:Int).toNat).size,0,0,rfl,RI.zero _,rfl⟩
   rintro n st ⟨N,i,rfl,hI,rfl⟩
   repeat' first
    | refine And.intro ?_ ?_
    | (intro h;simp only [reduceCtorEq] at h;done)
    | (intro h;rw [h])
    | intro h
   all_goals first
    | exact True.intro
    | exact Or.inr rfl
    | exact ⟨_,rfl⟩
    | with_reducible exact jdk _
    | (have hi' : decide ((i:Int) < ((s.extract (Int.toNat 1) (s.size:Int).toNat).size:Int))=true:=by with_reducible assumption
       have hi:i < (s.extract (Int.toNat 1) (s.size:Int).toNat).size:=by have:=jc6 hi';omega
       first
        | with_reducible exact jc6 hi'
        | (show aX [] _;exact rfl)
        | (refine resP (gF htl hi (.inl (by with_reducible assumption)) _ _))
        | (refine resP (gF htl hi (.inr (by with_reducible assumption)) _ _))
        | (have hd:=xR (t:=(s.extract (Int.toNat 1) (s.size:Int).toNat)) (i:=i) (by with_reducible assumption) (by with_reducible assumption)
           refine ⟨(s.extract (Int.toNat 1) (s.size:Int).toNat).size - (i+1),by omega,N * 10+(((s.extract (Int.toNat 1) (s.size:Int).toNat).data.getD i 0).toNat - 48),i+1,?_,hI.next hi hd.1 hd.2,rfl⟩
           exact jbn (f:=fun x z=>(([sArg s,iArg 12,.val false [.b true],sArg (s.extract (Int.toNat 1) (s.size:Int).toNat),iArg x,iArg z],[]):Snap)) (hI.num hi ht12 hd.1 hd.2) (IntWalk.i64_in _ (by omega))))
    | (have hi' : decide ((i:Int) < ((s.extract (Int.toNat 1) (s.size:Int).toNat).size:Int))=false:=by with_reducible assumption
       have hi:¬ i < (s.extract (Int.toNat 1) (s.size:Int).toNat).size:=by have:=jdh hi';omega
       have hN:=hI.small ht12
       have hd:=m7 (n:=-(N:Int)) N hN (htl ▸ hI.all hi) (by rw [if_pos h45])
       have hn:IntKind.i64.wrap (0 - (N:Int)) = -(N:Int):=(IntWalk.i64_in _ (by omega)).trans (by omega)
       first
        | exact resP (m8 hn hd (by with_reducible assumption))
        | exact resP (m9 hn hd (by with_reducible assumption)))
 · have h45:=ny (s:=s) (by with_reducible assumption) (by with_reducible assumption)
   have htl:=jF h45
   have ht12:s.size≤12:=by have:=jdh (show decide ((s.size:Int) > 12)=false by with_reducible assumption);omega
   clear hs
   refine aj (Q:=_) [0,1,6,7,8,9] [] (fun n st=>∃ N i:Nat,st=([sArg s,iArg 12,.val false [.b false],sArg s,iArg (N:Int),iArg (i:Int)],[])∧RI s N i∧n=s.size - i) ?_ ?_
   · exact ⟨rfl,s.size,0,0,rfl,RI.zero _,rfl⟩
   rintro n st ⟨N,i,rfl,hI,rfl⟩
   repeat' first
    | refine And.intro ?_ ?_
    | (intro h;simp only [reduceCtorEq] at h;done)
    | (intro h;rw [h])
    | intro h
   all_goals first
    | exact True.intro
    | exact Or.inr rfl
    | exact ⟨_,rfl⟩
    | with_reducible exact jdk _
    | (have hi' : decide ((i:Int) < (s.size:Int))=true:=by with_reducible assumption
       have hi:i < s.size:=by have:=jc6 hi';omega
       first
        | with_reducible exact jc6 hi'
        | (show aX [] _;exact rfl)
        | (refine resP (gF htl hi (.inl (by with_reducible assumption)) _ _))
        | (refine resP (gF htl hi (.inr (by with_reducible assumption)) _ _))
        | (have hd:=xR (t:=s) (i:=i) (by with_reducible assumption) (by with_reducible assumption)
           refine ⟨s.size - (i+1),by omega,N * 10+((s.data.getD i 0).toNat - 48),i+1,?_,hI.next hi hd.1 hd.2,rfl⟩
           exact jbn (f:=fun x z=>(([sArg s,iArg 12,.val false [.b false],sArg s,iArg x,iArg z],[]):Snap)) (hI.num hi ht12 hd.1 hd.2) (IntWalk.i64_in _ (by omega))))
    | (have hi' : decide ((i:Int) < (s.size:Int))=false:=by with_reducible assumption
       have hi:¬ i < s.size:=by have:=jdh hi';omega
       have hN:=hI.small ht12
       have hd:=m7 (n:=(N:Int)) N hN (htl ▸ hI.all hi) (by rw [if_neg h45])
       have hn:(N:Int)=(N:Int):=rfl
       first
        | exact resP (m8 hn hd (by with_reducible assumption))
        | exact resP (m9 hn hd (by with_reducible assumption)))
end Go.Proofs.YtdkofgjbbdbglaaGreatDoor.Ab
namespace Go.Proofs.YtdkofgjbbdbglaaGreatDoor
open Go.ChangeShapes Go.WideShapes Go.ChangeAt Go.RowKit Ab
set_option linter.all false
set_option maxRecDepth 200000
abbrev gE (w:World) (g:Nat):Prop:=∃ u x,w.cell? ⟨g,0,none⟩=some (.iface u x)
theorem atoiC (s:ByteArray) (hs:s.size≤281474976710656) (w:World) (hS:gE w 4) (hR:gE w 5) :
 Calls Tryz.prog 139 #[.string s] w fun e w' => ∃ v ev,e=.returned (.tuple #[.int .i64 v,ev])∧Below w.heap.size w w' ∧
  ((ev=.nilIface∧∀ n:Int, -999999999999≤n→n≤999999999999→aB n=s→v=n)∨((∃ t p,ev=.iface t p)∧∀ n:Int, -999999999999≤n→n≤999999999999→aB n ≠ s)):=by
 obtain ⟨u,x,hS⟩:=hS
 obtain ⟨u',x',hR⟩:=hR
 have back:∀ n:Int,aB n=s→Lib.atoi s.data.toList=some n:=fun n h=>by rw [← h,bh,nU]
 by_cases h18:s.size≤18
 · cases ha:Lib.atoi s.data.toList with
   | some n =>
     have uniq:∀ m:Int, -999999999999≤m→m≤999999999999→aB m=s→n=m:=fun m _ _ hm=>jc9 (ha.symm.trans (back m hm))
     refine (Tryz.strconv_Atoi s n h18 ha w).mono ?_
     rintro e w' ⟨he,t,hw⟩
     refine ⟨n,.nilIface,he,?_,.inl ⟨rfl,uniq⟩⟩
     rw [hw]
     exact fe _ _ _
   | none =>
     have none' : ∀ m:Int, -999999999999≤m→m≤999999999999→aB m ≠ s:=fun m _ _ hm=>by have:=ha.symm.trans (back m hm);cases this
     refine (Tryz.strconv_Atoi_err s h18 ha _ w hS (.inr ⟨u,x,rfl⟩)).mono ?_
     rintro e w' ⟨N,he,_,_,hw⟩
     exact ⟨_,_,he,hw,.inr ⟨⟨_,_,rfl⟩,none'⟩⟩
 · have long:∀ n:Int, -999999999999≤n→n≤999999999999→aB n ≠ s:=fun n h1 h2=>qY (by omega) h1 h2
   rcases ha:Lib.atoiAll s.data.toList with v|_|_
   ·
    refine (Tryz.strconv_Atoi_ok s (by omega) v ha w).mono ?_
    rintro e w' ⟨he,hw⟩
    refine ⟨v,.nilIface,he,?_,.inl ⟨rfl,fun m h1 h2 hm=>absurd hm (long m h1 h2)⟩⟩
    rcases hw with hw|⟨t,hw⟩
    · rw [hw];exact Below.refl _ _
    · rw [hw];exact fe _ _ _
   ·
    refine (Tryz.strconv_Atoi_syntax s hs ha _ w hS (.inr ⟨u,x,rfl⟩)).mono ?_
    rintro e w' ⟨N,he,_,_,hw⟩
    exact ⟨_,_,he,hw,.inr ⟨⟨_,_,rfl⟩,long⟩⟩
   ·
    refine (Tryz.strconv_Atoi_range s hs ha _ w hR (.inr ⟨u',x',rfl⟩)).mono ?_
    rintro e w' ⟨N,he,_,_,hw⟩
    exact ⟨_,_,he,hw,.inr ⟨⟨_,_,rfl⟩,long⟩⟩
theorem itoaC (n:Int) (h0:-9223372036854775808≤n) (h1:n≤9223372036854775807) (w:World) (htab:Lib.TabIs Tryz.prog w "internal/strconv.uint64pow10" .u64 Lib.pow10Tab) :
 Calls Tryz.prog 57 #[.int .i64 n] w fun e w' => e=.returned (.string (aB n))∧Below w.heap.size w w' :=
 (Tryz.strconv_Itoa n h0 h1 w htab).mono fun e w' ⟨he,k,os,hw⟩=>⟨he,hw ▸ Lib.below_grow w.heap.size w (jdm _) k os⟩
set_option maxHeartbeats 1000000 in
theorem tR (s:ByteArray) (lo hi:Int) (hs:s.size≤281474976710656) (hlo:-999999999999≤lo) (hhi:hi≤999999999999) (w:World) (hS:gE w 4) (hR:gE w 5)
 (htab:∀ w',Below w.heap.size w w' → Lib.TabIs Tryz.prog w' "internal/strconv.uint64pow10" .u64 Lib.pow10Tab) :
 Calls Tryz.prog 100 #[.string s,.int .i64 lo,.int .i64 hi] w fun e w' => e=.returned (.tuple #[.int .i64 (prs lo hi s).1,.bool (prs lo hi s).2])∧Below w.heap.size w w' := by
 have HX:=Lib.hid (atoiC s hs w hS hR)
 have HT:=Lib.hid htab
 clear hS hR htab
 go_enter Tryz.func100,Tryz.ntmps100
 go_wp2_with fail
 refine HX.out.mono ?_
 rintro e w1 ⟨v,ev,rfl,hb1,⟨rfl,hv⟩|⟨⟨t,p,rfl⟩,hn⟩⟩
 · by_cases h1:v < lo
   · have hp:prs lo hi s=(0,false):=fI fun n h3 h4 h5=>by have:=hv n (by omega) (by omega) h5;omega
     go_wp2
     go_ret2
     rw [hp]
     exact ⟨rfl,hb1⟩
   by_cases h2:v > hi
   · have hp:prs lo hi s=(0,false):=fI fun n h3 h4 h5=>by have:=hv n (by omega) (by omega) h5;omega
     go_wp2
     go_ret2
     rw [hp]
     exact ⟨rfl,hb1⟩
   have HI:=Lib.hid (itoaC v (by omega) (by omega) w1 (HT.out w1 hb1))
   have HV:=Lib.hid hv
   have HB:=Lib.hid hb1
   clear hv HT HX hb1
   by_cases h3:(aB v).toList=s.toList
   · have hp:prs lo hi s=(v,true):=eU (by omega) (by omega) ((aW _ _).mp h3)
     have HP:=Lib.hid hp
     clear hp
     go_wp2_with (first|(go_at_call 57;refine HI.out.mono ?_;rintro e w2 ⟨rfl,hb2⟩))
     go_ret2
     rw [HP.out]
     exact ⟨rfl,HB.out.trans (hb2.mono HB.out.size)⟩
   · have hp:prs lo hi s=(0,false):=fI fun n h4 h5 h6=>by
      have:=HV.out n (by omega) (by omega) h6
      subst this
      exact h3 (by rw [h6])
     have HP:=Lib.hid hp
     clear hp
     go_wp2_with (first|(go_at_call 57;refine HI.out.mono ?_;rintro e w2 ⟨rfl,hb2⟩))
     · go_ret2
       rw [HP.out]
       exact ⟨rfl,HB.out.trans (hb2.mono HB.out.size)⟩
     · rename_i hh
       exact absurd (eq_of_beq (show ((aB v).toList == s.toList)=true by simpa using hh.2)) h3
 · go_wp2
   go_ret2
   rw [fI fun n h1 h2=>hn n (by omega) (by omega)]
   exact ⟨rfl,hb1⟩
namespace Ab
theorem glE {w:World} {X:Nat→Prop} (h:GlR T w X) {g:Nat} (hg:(g,true) ∈ T.ifs):gE w g:=by
 obtain ⟨_,_,u,h1,t,x,rfl⟩:=h.2 _ hg
 exact ⟨t,x,h1⟩
theorem FOk.flat2 {P:Program} {T:Tab} {f:FuncId} {s:FSpec} (hcall:∀ args w,(callFunc f args).run P w=.ok (.enter f args) w) (hbx:s.bx=false) (h:∀ (w:World) (X:Nat→Prop) (args:List SV) (vals:List Value),ArgsR T w X vals args→GlR T w X→s.pre args →
 ∃ (c d:CV) (u v:Value),s.res args=.tup [(false,[c]),(false,[d])]∧(∀ w' X',ArgC T w' X' u c∧ArgC T w' X' v d)∧Calls P f vals.toArray w fun e w' => e=.returned (.tuple #[u,v])∧Below w.heap.size w w'):FOk P T f s:=by
 refine ⟨hcall,fun hb=>(by rw [hbx] at hb;cases hb),fun _ w X args vals hX hargs hgl hpre=>?_,fun hb=>(by rw [hbx] at hb;cases hb)⟩
 obtain ⟨c,d,u,v,h1,h2,h3⟩:=h w X args vals hargs hgl hpre
 refine h3.mono fun e w' ⟨he,hb⟩=>⟨_,fun _=>noB,he,hb,?_,(fun j b h=>by cases h),(fun j j2 b h=>by cases h)⟩
 rw [h1]
 refine ⟨[u,v],rfl,rfl,fun j p x hp hx=>?_⟩
 match j with
 | 0 =>
   obtain rfl:=jc9 hp
   obtain rfl:=jc9 hx
   exact TupR.of_arg ⟨c,rfl,(h2 w' _).1⟩
 | 1 =>
   obtain rfl:=jc9 hp
   obtain rfl:=jc9 hx
   exact TupR.of_arg ⟨d,rfl,(h2 w' _).2⟩
 | j+2=>simp at hp
theorem ArgsR.three_ {T:Tab} {w:World} {X:Nat→Prop} {vals:List Value} {c d e:CV} (h:ArgsR T w X vals [.val false [c],.val false [d],.val false [e]]):∃ v u x,vals=[v,u,x]∧ArgC T w X v c∧ArgC T w X u d∧ArgC T w X x e:=by
 obtain ⟨h1,h2⟩:=h
 match vals,h1 with
 | [v,u,x],_ =>
   obtain ⟨c',e1,hc⟩:=h2 0 _ v rfl rfl
   obtain rfl:c=c' := by simpa using e1
   obtain ⟨d',e2,hd⟩:=h2 1 _ u rfl rfl
   obtain rfl:d=d' := by simpa using e2
   obtain ⟨e',e3,he⟩:=h2 2 _ x rfl rfl
   obtain rfl:e=e' := by simpa using e3
   exact ⟨v,u,x,rfl,hc,hd,he⟩
theorem nt {n:Int} (h1:-999999999999≤n) (h2:n≤999999999999):inK .i64 n:=by
 have h3:IntKind.i64.min = -9223372036854775808:=by decide
 have h4:IntKind.i64.max=9223372036854775807:=by decide
 rw [inK,h3,h4]
 omega
theorem s8 {lo hi:Int} (hlo:-999999999999≤lo) (hhi:hi≤999999999999) (s:ByteArray):inK .i64 (prs lo hi s).1:=by
 by_cases hx:∃ n:Int,lo≤n∧n≤hi∧aB n=s
 · obtain ⟨n,h3,h4,h5⟩:=hx
   rw [eU h3 h4 h5]
   exact nt (by omega) (by omega)
 · rw [fI fun n h3 h4 h5=>hx ⟨n,h3,h4,h5⟩]
   exact nt (by decide) (by decide)
theorem okParse:FOk Tryz.prog T 100 yN:=FOk.flat2 Tryz.call100 rfl fun w X args vals hargs hgl hpre=>by
 obtain ⟨s,lo,hi,hs,hlo,hhi,rfl⟩:=hpre
 obtain ⟨v,u,x,rfl,⟨rfl,_⟩,⟨rfl,_⟩,⟨rfl,_⟩⟩:=hargs.three_
 refine ⟨_,_,_,_,rfl,fun w' X' => ⟨⟨rfl,s8 hlo hhi s⟩,rfl⟩,tR s lo hi hs hlo hhi w (glE hgl (by decide)) (glE hgl (by decide)) fun w' hb=>?_⟩
 exact rL (X:=X) (hgl.move ⟨hb.size,fun b h _=>hb.block b h⟩ fun _ _ h=>h)
theorem okDecS:FOk Tryz.prog T 96 vx:=FOk.flat2 Tryz.call96 rfl fun w X args vals hargs hgl hpre=>by
 obtain ⟨s,hs,rfl⟩:=hpre
 obtain ⟨v,rfl,rfl,_⟩:=hargs.one_
 exact ⟨_,_,_,_,rfl,fun w' X' => ⟨⟨rfl,jdd (mB s) (jdd hs (by decide))⟩,rfl⟩,yL s w hs⟩
theorem okDecI:FOk Tryz.prog T 102 vx:=FOk.flat2 Tryz.call102 rfl fun w X args vals hargs hgl hpre=>by
 obtain ⟨s,hs,rfl⟩:=hpre
 obtain ⟨v,rfl,rfl,_⟩:=hargs.one_
 obtain ⟨u,x,hE⟩:=glE hgl (g:=3) (by decide)
 exact ⟨_,_,_,_,rfl,fun w' X' => ⟨⟨rfl,jdd (mB s) (jdd hs (by decide))⟩,rfl⟩,zG s w u x hE hs⟩
theorem okSplit2:FOk Tryz.prog T 99 pF:=by
 refine ⟨Tryz.call99,fun hb=>(by cases hb),fun _ w X args vals hX hargs hgl hpre=>?_,fun hb=>(by cases hb)⟩
 obtain ⟨s,hs,rfl⟩:=hpre
 obtain ⟨v,u,rfl,⟨rfl,_⟩,⟨rfl,_⟩⟩:=hargs.two_
 obtain ⟨_,_,u,hm,m,rfl⟩:=hgl.2 (0,false) (by decide)
 refine (Tryz.strings_Split s ⟨#[32]⟩ m w (by omega) hm (by decide)).mono ?_
 rintro e w' ⟨he,hw⟩
 have hl:=Lib.splitB_all ⟨#[32]⟩ (by decide) 0 _ s rfl
 rw [jT _ s (jdm _)] at hw hl
 have hle:=Lib.countB_le ⟨#[32]⟩ (by decide) s.size s (jdm _)
 refine ⟨_,fun _=>noB,he,?_,?_,(fun j b h=>by cases h),(fun j j2 b h=>by cases h)⟩
 · rw [hw];exact (Below.refl _ _).alloc (jdm _) _
 have hn:(ah s).length=(aG s.data.toList).length:=by simp [ah]
 have hrl:(ac (ah s)).length=(ah s).length:=by simp [ac]
 have hcell:∀ k x,(ah s)[k]? = some x→w'.cell? ⟨w.heap.size,k,none⟩=some (.string x):=fun k x hx=>by
  have hb:w'.heap[w.heap.size]? = some (.cells ((ah s).map Value.string).toArray 9 (0,0)):=by rw [hw];exact heap_alloc_new w _
  have hc:w'.cell? ⟨w.heap.size,k,none⟩=((ah s).map Value.string).toArray[k]? := by unfold World.cell?;rw [hb];rfl
  rw [hc,List.getElem?_toArray,jdx,hx]
  rfl
 have hsz:∀ x ∈ ah s,x.size≤maxLen:=fun x hx=>jdd (fM hx) (jdd hs (by decide))
 refine ⟨_,rfl,?_⟩
 show RdR T w' _ (.l 9) _ (.l (ac (ah s)))
 rw [show Lib.countB s ⟨#[32]⟩+1=(ac (ah s)).length by omega]
 refine .sl 9 _ _ 0 _ _ (fun k _=>((ah s)[k]?).elim undef Value.string) (show T 9=some _ from rfl) (jdm _) (by simp only [maxLen];omega) ?_ ?_ (fun k j hk hj=>?_) (fun k row hk=>?_) (fun k j ct d row hk hct hd=>?_)
 · rintro (h|⟨j,h⟩)
   · exact absurd (hX _ h) (Nat.lt_irrefl _)
   · cases h
 · rw [hw];exact (jeb.1 (heap_alloc_new w _)).1
 · have hk' : k < (ah s).length:=by omega
   obtain rfl:j=0:=by simpa using hj
   show w'.cell? ⟨w.heap.size,0+k * 1+0,none⟩=_
   rw [show 0+k * 1+0=k by omega]
   rw [hcell k _ (jc5 hk'),jc5 hk']
   rfl
 · simp only [ac,jdx] at hk
   cases hx:(ah s)[k]? with
   | none=>rw [hx] at hk;cases hk
   | some x=>rw [hx] at hk;obtain rfl:=jc9 hk;rfl
 · simp only [ac,jdx] at hk
   cases hx:(ah s)[k]? with
   | none=>rw [hx] at hk;cases hk
   | some x =>
     rw [hx] at hk
     obtain rfl:=jc9 hk
     obtain rfl:j=0:=by
      have:=(jdg.1 hd).1
      simpa using this
     obtain rfl:=jc9 hct
     obtain rfl:=jc9 hd
     exact .str x (hsz x (jdq hx))
end Ab
end Go.Proofs.YtdkofgjbbdbglaaGreatDoor
namespace Go.Proofs.YtdkofgjbbdbglaaGreatDoor.Ab
open Go.RowKit
set_option linter.all false
set_option maxRecDepth 100000
theorem ok95:FOk Tryz.prog T 95 (rZ (-999999999999) 999999999999):=by
 refine fok (env:=envL [(123,xc)]) (N:=8) tabT (aa ok123 ae) mixed Tryz.func95 rfl Tryz.call95 Tryz.ntmps95 ?_
 rintro args ⟨s,hs,rfl⟩ hwf
 refine ⟨by simp,?_⟩
 clear hwf
 rw [Tryz.results95]
 repeat' first
  | refine And.intro ?_ ?_
  | (intro h;simp only [reduceCtorEq] at h;done)
  | (intro h;rw [h])
  | intro h
 all_goals first
  | exact True.intro
  | exact Or.inr rfl
  | exact rfl
  | exact ⟨_,rfl⟩
theorem ok187:FOk Tryz.prog T 187 (rZ (-999999999999) 999999999999):=by
 refine fok (env:=envL [(100,yN)]) (N:=13) tabT (aa okParse ae) mixed Tryz.func187 rfl Tryz.call187 Tryz.ntmps187 ?_
 rintro args ⟨s,hs,rfl⟩ hwf
 refine ⟨by simp,?_⟩
 clear hwf
 rw [Tryz.results187]
 repeat' first
  | refine And.intro ?_ ?_
  | (intro h;simp only [reduceCtorEq] at h;done)
  | (intro h;rw [h])
  | intro h
 all_goals first
  | exact True.intro
  | exact Or.inr rfl
  | exact rfl
  | exact ⟨_,_,_,hs,by decide,by decide,rfl⟩
theorem ok64:FOk Tryz.prog T 64 w9:=by
 refine fokB (env:=envL [(95,(rZ (-999999999999) 999999999999))]) (N:=37) tabT (aa ok95 ae) mixed Tryz.func64 rfl Tryz.call64 Tryz.ntmps64 ?_
 rintro cs args ⟨rows,k,hk,hs,he⟩ hwf
 simp only [jdw,SV.tup.injEq,jdA,true_and,and_true] at he
 obtain ⟨rfl,rfl⟩:=he
 refine ⟨by simp,?_⟩
 clear hwf
 rw [Tryz.results64]
 repeat' first
  | refine And.intro ?_ ?_
  | (intro h;simp only [reduceCtorEq] at h;done)
  | (intro h;rw [h])
  | intro h
 all_goals first
  | (show av _=true;kernel_rfl)
  | (show ba _ _=true;kernel_rfl)
  | exact True.intro
  | exact Or.inr rfl
  | exact jdk _
  | exact jc6 (show decide ((k:Int) < (rows.length:Int))=true by with_reducible assumption)
  | (have hd:=jc6 (show decide ((k:Int) < (rows.length:Int))=true by with_reducible assumption);rw [jds];omega)
  | exact updK hk
  | (have hd:=jc6 (show decide ((k:Int) < (rows.length:Int))=true by with_reducible assumption);exact ⟨_,jdd (hs _ (by rw [jds];omega)) (by decide),rfl⟩)
  | exact congrArg (fun z=>[CV.i .i64 z]) (vO (by with_reducible assumption))
  | exact congrArg (fun z=>[CV.i .i64 z]) (zi (by with_reducible assumption))
theorem ok65:FOk Tryz.prog T 65 wZ:=by
 refine fokB (env:=envL [(96,vx)]) (N:=37) tabT (aa okDecS ae) mixed Tryz.func65 rfl Tryz.call65 Tryz.ntmps65 ?_
 rintro cs args ⟨rows,k,hk,hs,he⟩ hwf
 simp only [jdw,SV.tup.injEq,jdA,true_and,and_true] at he
 obtain ⟨rfl,rfl⟩:=he
 refine ⟨by simp,?_⟩
 clear hwf
 rw [Tryz.results65]
 repeat' first
  | refine And.intro ?_ ?_
  | (intro h;simp only [reduceCtorEq] at h;done)
  | (intro h;rw [h])
  | intro h
 all_goals first
  | (show av _=true;kernel_rfl)
  | (show ba _ _=true;kernel_rfl)
  | exact True.intro
  | exact Or.inr rfl
  | exact jdk _
  | exact jc6 (show decide ((k:Int) < (rows.length:Int))=true by with_reducible assumption)
  | (have hd:=jc6 (show decide ((k:Int) < (rows.length:Int))=true by with_reducible assumption);rw [jds];omega)
  | exact updK hk
  | (have hd:=jc6 (show decide ((k:Int) < (rows.length:Int))=true by with_reducible assumption);exact ⟨_,hs _ (by rw [jds];omega),rfl⟩)
  | exact congrArg (fun z=>[CV.s z]) (vf (by with_reducible assumption))
  | exact congrArg (fun z=>[CV.s z]) (yw (by with_reducible assumption))
theorem ok101:FOk Tryz.prog T 101 rT:=by
 refine fokB (env:=envL []) (N:=28) tabT ae mixed Tryz.func101 rfl Tryz.call101 Tryz.ntmps101 ?_
 rintro cs args ⟨rows,b,he⟩ hwf
 simp only [jdw,SV.tup.injEq,jdA,true_and,and_true] at he
 obtain ⟨rfl,rfl⟩:=he
 refine ⟨by simp,?_⟩
 clear hwf
 rw [Tryz.results101]
 repeat' first
  | refine And.intro ?_ ?_
  | (intro h;simp only [reduceCtorEq] at h;done)
  | (intro h;rw [h])
  | intro h
 all_goals first
  | exact True.intro
  | exact Or.inr rfl
  | (have hh:=jcp (rows:=rows) (by with_reducible assumption);first|exact resS hh.1|exact updNo hh.2)
  | (have hh:=zJ (rows:=rows) (by with_reducible assumption);first|omega|exact resS hh.1|exact jaw hh.2)
theorem ok70:FOk Tryz.prog T 70 xe:=by
 refine fokB (env:=envL [(101,rT),(100,yN)]) (N:=22) tabT (aa ok101 (aa okParse ae)) mixed Tryz.func70 rfl Tryz.call70 Tryz.ntmps70 ?_
 rintro cs args ⟨rows,b,hs,he⟩ hwf
 simp only [jdw,SV.tup.injEq,jdA,true_and,and_true] at he
 obtain ⟨rfl,rfl⟩:=he
 refine ⟨by simp,?_⟩
 clear hwf
 rw [Tryz.results70]
 repeat' first
  | refine And.intro ?_ ?_
  | (intro h;simp only [reduceCtorEq] at h;done)
  | (intro h;rw [h])
  | intro h
 all_goals first
  | exact True.intro
  | exact Or.inr rfl
  | exact rfl
  | exact ⟨_,_,rfl⟩
  | exact ⟨_,_,_,jdd (mw hs) (by decide),by decide,by decide,rfl⟩
  | (refine updB ?_;simp_all [gN];done)
theorem ok71:FOk Tryz.prog T 71 xa:=by
 refine fokB (env:=envL [(101,rT),(102,vx)]) (N:=22) tabT (aa ok101 (aa okDecI ae)) mixed Tryz.func71 rfl Tryz.call71 Tryz.ntmps71 ?_
 rintro cs args ⟨rows,b,hs,he⟩ hwf
 simp only [jdw,SV.tup.injEq,jdA,true_and,and_true] at he
 obtain ⟨rfl,rfl⟩:=he
 refine ⟨by simp,?_⟩
 clear hwf
 rw [Tryz.results71]
 repeat' first
  | refine And.intro ?_ ?_
  | (intro h;simp only [reduceCtorEq] at h;done)
  | (intro h;rw [h])
  | intro h
 all_goals first
  | exact True.intro
  | exact Or.inr rfl
  | exact rfl
  | exact ⟨_,_,rfl⟩
  | exact ⟨_,mw hs,rfl⟩
  | (refine updB ?_;simp_all;done)
theorem ok63:FOk Tryz.prog T 63 (fW true):=by
 refine fok (env:=envL []) (N:=36) tabT ae mixed Tryz.func63 rfl Tryz.call63 Tryz.ntmps63 ?_
 rintro args ⟨s,hs,rfl⟩ hwf
 refine ⟨by simp,?_⟩
 clear hwf
 rw [Tryz.results63]
 repeat' first
  | refine And.intro ?_ ?_
  | (intro h;simp only [reduceCtorEq] at h;done)
  | (intro h;rw [h])
  | intro h
 all_goals first
  | skip
 refine aj (Q:=_) [0,1,5,6,7] [] (fun n st=>∃ (o:List ByteArray) (fr i:Nat),st=([sArg s,.val false [.i .u8 32],.val false [.sl true 9 (ac o)],iArg (fr:Int),iArg (i:Int)],[])∧SpI s o fr i∧n=s.size+1 - i) ?_ ?_
 · exact ⟨rfl,s.size+1,[],0,0,rfl,SpI.zero s,rfl⟩
 rintro n st ⟨o,fr,i,rfl,hI,rfl⟩
 repeat' first
  | refine And.intro ?_ ?_
  | (intro h;simp only [reduceCtorEq] at h;done)
  | (intro h;rw [h])
  | intro h
 all_goals first
  | exact True.intro
  | exact Or.inr rfl
  | with_reducible exact jdk _
  | (have hd:decide ((i:Int)≤(s.size:Int))=true:=by with_reducible assumption
     have hle:i≤s.size:=by have:=jc6 hd;omega
     have hl:=hI.le hle
     first
      | omega
      | (show (ac o).length+1≤maxLen;rw [ac,jdi];simp only [maxLen];omega)
      | (show ((ac o).length+1) * 16≤140737488355328;rw [ac,jdi];omega)
      | (have he:((i:Int) == (s.size:Int))=true:=by with_reducible assumption
         have hi:i=s.size:=by have:=eq_of_beq he;omega
         refine ⟨s.size+1 - (i+1),by omega,o++[s.extract fr i],i+1,i+1,?_,hI.full hi,rfl⟩
         exact vy (f:=fun x y z=>(([sArg s,.val false [.i .u8 32],.val false [.sl true 9 x],iArg y,iArg z],[]):Snap)) (fO _ _) (IntWalk.i64_in _ (by omega)) (IntWalk.i64_in _ (by omega)))
      | (have he:((i:Int) == (s.size:Int))=false:=by with_reducible assumption
         have hi:i < s.size:=by have h2:(i:Int) ≠ (s.size:Int):=(by simpa using he);omega
         first
          | omega
          | (have hb:=(byte_of (s:=s) (i:=i) (by with_reducible assumption)).1 rfl
             refine ⟨s.size+1 - (i+1),by omega,o++[s.extract fr i],i+1,i+1,?_,hI.space hi hb,rfl⟩
             exact vy (f:=fun x y z=>(([sArg s,.val false [.i .u8 32],.val false [.sl true 9 x],iArg y,iArg z],[]):Snap)) (fO _ _) (IntWalk.i64_in _ (by omega)) (IntWalk.i64_in _ (by omega)))
          | (have hb:=(byte_of (s:=s) (i:=i) (by with_reducible assumption)).2 rfl
             refine ⟨s.size+1 - (i+1),by omega,o,fr,i+1,?_,hI.miss hi hb,rfl⟩
             exact vy (f:=fun x y z=>(([sArg s,.val false [.i .u8 32],.val false [.sl true 9 x],iArg y,iArg z],[]):Snap)) rfl rfl (IntWalk.i64_in _ (by omega)))
          | (show aX [] _;exact rfl))
      | (show aX [] _;exact rfl))
  | (have hd:decide ((i:Int)≤(s.size:Int))=false:=by with_reducible assumption
     have hle:¬ i≤s.size:=by have:=jdh hd;omega
     exact congrArg (fun z=>[CV.sl true 9 (ac z)]) (hI.done hle))
theorem ok69:FOk Tryz.prog T 69 (fW false):=by
 refine fok (env:=envL [(99,pF)]) (N:=10) tabT (aa okSplit2 ae) mixed Tryz.func69 rfl Tryz.call69 Tryz.ntmps69 ?_
 rintro args ⟨s,hs,rfl⟩ hwf
 refine ⟨by simp,?_⟩
 clear hwf
 rw [Tryz.results69]
 repeat' first
  | refine And.intro ?_ ?_
  | (intro h;simp only [reduceCtorEq] at h;done)
  | (intro h;rw [h])
  | intro h
 all_goals first
  | exact True.intro
  | exact Or.inr rfl
  | exact rfl
  | exact ⟨_,hs,rfl⟩
end Go.Proofs.YtdkofgjbbdbglaaGreatDoor.Ab
