/- Readers of numbers, words and texts: printed by a program of this -/
import Derived.Test.YtkpnfbdoaljkpaaGreatDoorCFq
namespace Go.Proofs.YtkpnfbdoaljkpaaGreatDoor.Ab
open Go.RowKit
set_option linter.all false
set_option maxRecDepth 100000
end Go.Proofs.YtkpnfbdoaljkpaaGreatDoor.Ab
namespace Go.Proofs.YtkpnfbdoaljkpaaGreatDoor
open Go.ChangeShapes Go.WideShapes Go.ChangeAt Go.RowKit Ab
set_option linter.all false
set_option maxRecDepth 200000
abbrev gE (w:World) (g:Nat):Prop:=∃ u x,w.cell? ⟨g,0,none⟩=some (.iface u x)
theorem atoiC (s:ByteArray) (hs:s.size≤281474976710656) (w:World) (hS:gE w 3) (hR:gE w 4) :
 Calls Tryz.prog 169 #[.string s] w fun e w' => ∃ v ev,e=.returned (.tuple #[.int .i64 v,ev])∧Below w.heap.size w w' ∧
  ((ev=.nilIface∧∀ n:Int, -999999999999≤n→n≤999999999999→aM n=s→v=n)∨((∃ t p,ev=.iface t p)∧∀ n:Int, -999999999999≤n→n≤999999999999→aM n ≠ s)):=by
 obtain ⟨u,x,hS⟩:=hS
 obtain ⟨u',x',hR⟩:=hR
 have back:∀ n:Int,aM n=s→Lib.atoi s.data.toList=some n:=fun n h=>by rw [← h,bT,mZ]
 by_cases h18:s.size≤18
 · cases ha:Lib.atoi s.data.toList with
   | some n =>
     have uniq:∀ m:Int, -999999999999≤m→m≤999999999999→aM m=s→n=m:=fun m _ _ hm=>jaW (ha.symm.trans (back m hm))
     refine (Tryz.strconv_Atoi s n h18 ha w).mono ?_
     rintro e w' ⟨he,t,hw⟩
     refine ⟨n,.nilIface,he,?_,.inl ⟨rfl,uniq⟩⟩
     rw [hw]
     exact eG _ _ _
   | none =>
     have none' : ∀ m:Int, -999999999999≤m→m≤999999999999→aM m ≠ s:=fun m _ _ hm=>by have:=ha.symm.trans (back m hm);cases this
     refine (Tryz.strconv_Atoi_err s h18 ha _ w hS (.inr ⟨u,x,rfl⟩)).mono ?_
     rintro e w' ⟨N,he,_,_,hw⟩
     exact ⟨_,_,he,hw,.inr ⟨⟨_,_,rfl⟩,none'⟩⟩
 · have long:∀ n:Int, -999999999999≤n→n≤999999999999→aM n ≠ s:=fun n h1 h2=>pT (by omega) h1 h2
   rcases ha:Lib.atoiAll s.data.toList with v|_|_
   ·
    refine (Tryz.strconv_Atoi_ok s (by omega) v ha w).mono ?_
    rintro e w' ⟨he,hw⟩
    refine ⟨v,.nilIface,he,?_,.inl ⟨rfl,fun m h1 h2 hm=>absurd hm (long m h1 h2)⟩⟩
    rcases hw with hw|⟨t,hw⟩
    · rw [hw];exact Below.refl _ _
    · rw [hw];exact eG _ _ _
   ·
    refine (Tryz.strconv_Atoi_syntax s hs ha _ w hS (.inr ⟨u,x,rfl⟩)).mono ?_
    rintro e w' ⟨N,he,_,_,hw⟩
    exact ⟨_,_,he,hw,.inr ⟨⟨_,_,rfl⟩,long⟩⟩
   ·
    refine (Tryz.strconv_Atoi_range s hs ha _ w hR (.inr ⟨u',x',rfl⟩)).mono ?_
    rintro e w' ⟨N,he,_,_,hw⟩
    exact ⟨_,_,he,hw,.inr ⟨⟨_,_,rfl⟩,long⟩⟩
theorem itoaC (n:Int) (h0:-9223372036854775808≤n) (h1:n≤9223372036854775807) (w:World) (htab:Lib.TabIs Tryz.prog w "internal/strconv.uint64pow10" .u64 Lib.pow10Tab) :
 Calls Tryz.prog 142 #[.int .i64 n] w fun e w' => e=.returned (.string (aM n))∧Below w.heap.size w w' :=
 (Tryz.strconv_Itoa n h0 h1 w htab).mono fun e w' ⟨he,k,os,hw⟩=>⟨he,hw ▸ Lib.below_grow w.heap.size w (ja9 _) k os⟩
set_option maxHeartbeats 1000000 in
theorem r8 (s:ByteArray) (lo hi:Int) (hs:s.size≤281474976710656) (hlo:-999999999999≤lo) (hhi:hi≤999999999999) (w:World) (hS:gE w 3) (hR:gE w 4)
 (htab:∀ w',Below w.heap.size w w' → Lib.TabIs Tryz.prog w' "internal/strconv.uint64pow10" .u64 Lib.pow10Tab) :
 Calls Tryz.prog 126 #[.string s,.int .i64 lo,.int .i64 hi] w fun e w' => e=.returned (.tuple #[.int .i64 (prs lo hi s).1,.bool (prs lo hi s).2])∧Below w.heap.size w w' := by
 have HX:=Lib.hid (atoiC s hs w hS hR)
 have HT:=Lib.hid htab
 clear hS hR htab
 go_enter Tryz.func126,Tryz.ntmps126
 go_wp2_with fail
 refine HX.out.mono ?_
 rintro e w1 ⟨v,ev,rfl,hb1,⟨rfl,hv⟩|⟨⟨t,p,rfl⟩,hn⟩⟩
 · by_cases h1:v < lo
   · have hp:prs lo hi s=(0,false):=jp fun n h3 h4 h5=>by have:=hv n (by omega) (by omega) h5;omega
     go_wp2
     go_ret2
     rw [hp]
     exact ⟨rfl,hb1⟩
   by_cases h2:v > hi
   · have hp:prs lo hi s=(0,false):=jp fun n h3 h4 h5=>by have:=hv n (by omega) (by omega) h5;omega
     go_wp2
     go_ret2
     rw [hp]
     exact ⟨rfl,hb1⟩
   have HI:=Lib.hid (itoaC v (by omega) (by omega) w1 (HT.out w1 hb1))
   have HV:=Lib.hid hv
   have HB:=Lib.hid hb1
   clear hv HT HX hb1
   by_cases h3:(aM v).toList=s.toList
   · have hp:prs lo hi s=(v,true):=fG (by omega) (by omega) ((aF _ _).mp h3)
     have HP:=Lib.hid hp
     clear hp
     go_wp2_with (first|(go_at_call 142;refine HI.out.mono ?_;rintro e w2 ⟨rfl,hb2⟩))
     go_ret2
     rw [HP.out]
     exact ⟨rfl,HB.out.trans (hb2.mono HB.out.size)⟩
   · have hp:prs lo hi s=(0,false):=jp fun n h4 h5 h6=>by
      have:=HV.out n (by omega) (by omega) h6
      subst this
      exact h3 (by rw [h6])
     have HP:=Lib.hid hp
     clear hp
     go_wp2_with (first|(go_at_call 142;refine HI.out.mono ?_;rintro e w2 ⟨rfl,hb2⟩))
     · go_ret2
       rw [HP.out]
       exact ⟨rfl,HB.out.trans (hb2.mono HB.out.size)⟩
     · rename_i hh
       exact absurd (eq_of_beq (show ((aM v).toList == s.toList)=true by simpa using hh.2)) h3
 · go_wp2
   go_ret2
   rw [jp fun n h1 h2=>hn n (by omega) (by omega)]
   exact ⟨rfl,hb1⟩
namespace Ab
theorem glE {w:World} {X:Nat→Prop} (h:GlR T w X) {g:Nat} (hg:(g,true) ∈ T.ifs):gE w g:=by
 obtain ⟨_,_,u,h1,t,x,rfl⟩:=h.2 _ hg
 exact ⟨t,x,h1⟩
theorem FOk.flat2 {P:Program} {T:Tab} {f:FuncId} {s:FSpec} (hcall:∀ args w,(callFunc f args).run P w=.ok (.enter f args) w) (hbx:s.bx=false) (h:∀ (w:World) (X:Nat→Prop) (args:List SV) (vals:List Value),ArgsR T w X vals args→GlR T w X→s.pre args →
 ∃ (c d:CV) (u v:Value),s.res args=.tup [(false,[c]),(false,[d])]∧(∀ w' X',ArgC T w' X' u c∧ArgC T w' X' v d)∧Calls P f vals.toArray w fun e w' => e=.returned (.tuple #[u,v])∧Below w.heap.size w w'):FOk P T f s:=by
 refine ⟨hcall,fun hb=>(by rw [hbx] at hb;cases hb),fun _ w X args vals hX hargs hgl hpre=>?_,fun hb=>(by rw [hbx] at hb;cases hb)⟩
 obtain ⟨c,d,u,v,h1,h2,h3⟩:=h w X args vals hargs hgl hpre
 refine h3.mono fun e w' ⟨he,hb⟩=>⟨_,fun _=>noB,he,hb,?_,(fun j b h=>by cases h),(fun j j2 b h=>by cases h)⟩
 rw [h1]
 refine ⟨[u,v],rfl,rfl,fun j p x hp hx=>?_⟩
 match j with
 | 0 =>
   obtain rfl:=jaW hp
   obtain rfl:=jaW hx
   exact TupR.of_arg ⟨c,rfl,(h2 w' _).1⟩
 | 1 =>
   obtain rfl:=jaW hp
   obtain rfl:=jaW hx
   exact TupR.of_arg ⟨d,rfl,(h2 w' _).2⟩
 | j+2=>simp at hp
theorem ArgsR.three_ {T:Tab} {w:World} {X:Nat→Prop} {vals:List Value} {c d e:CV} (h:ArgsR T w X vals [.val false [c],.val false [d],.val false [e]]):∃ v u x,vals=[v,u,x]∧ArgC T w X v c∧ArgC T w X u d∧ArgC T w X x e:=by
 obtain ⟨h1,h2⟩:=h
 match vals,h1 with
 | [v,u,x],_ =>
   obtain ⟨c',e1,hc⟩:=h2 0 _ v rfl rfl
   obtain rfl:c=c' := by simpa using e1
   obtain ⟨d',e2,hd⟩:=h2 1 _ u rfl rfl
   obtain rfl:d=d' := by simpa using e2
   obtain ⟨e',e3,he⟩:=h2 2 _ x rfl rfl
   obtain rfl:e=e' := by simpa using e3
   exact ⟨v,u,x,rfl,hc,hd,he⟩
theorem mu {n:Int} (h1:-999999999999≤n) (h2:n≤999999999999):inK .i64 n:=by
 have h3:IntKind.i64.min = -9223372036854775808:=by decide
 have h4:IntKind.i64.max=9223372036854775807:=by decide
 rw [inK,h3,h4]
 omega
theorem rx {lo hi:Int} (hlo:-999999999999≤lo) (hhi:hi≤999999999999) (s:ByteArray):inK .i64 (prs lo hi s).1:=by
 by_cases hx:∃ n:Int,lo≤n∧n≤hi∧aM n=s
 · obtain ⟨n,h3,h4,h5⟩:=hx
   rw [fG h3 h4 h5]
   exact mu (by omega) (by omega)
 · rw [jp fun n h3 h4 h5=>hx ⟨n,h3,h4,h5⟩]
   exact mu (by decide) (by decide)
theorem okParse:FOk Tryz.prog T 126 wm:=FOk.flat2 Tryz.call126 rfl fun w X args vals hargs hgl hpre=>by
 obtain ⟨s,lo,hi,hs,hlo,hhi,rfl⟩:=hpre
 obtain ⟨v,u,x,rfl,⟨rfl,_⟩,⟨rfl,_⟩,⟨rfl,_⟩⟩:=hargs.three_
 refine ⟨_,_,_,_,rfl,fun w' X' => ⟨⟨rfl,rx hlo hhi s⟩,rfl⟩,r8 s lo hi hs hlo hhi w (glE hgl (by decide)) (glE hgl (by decide)) fun w' hb=>?_⟩
 exact qv (X:=X) (hgl.move ⟨hb.size,fun b h _=>hb.block b h⟩ fun _ _ h=>h)
theorem okDecI:FOk Tryz.prog T 128 yO:=FOk.flat2 Tryz.call128 rfl fun w X args vals hargs hgl hpre=>by
 obtain ⟨s,hs,rfl⟩:=hpre
 obtain ⟨v,rfl,rfl,_⟩:=hargs.one_
 obtain ⟨u,x,hE⟩:=glE hgl (g:=2) (by decide)
 exact ⟨_,_,_,_,rfl,fun w' X' => ⟨⟨rfl,ja0 (oa s) (ja0 hs (by decide))⟩,rfl⟩,xw s w u x hE hs⟩
theorem okSplit2:FOk Tryz.prog T 125 oI:=by
 refine ⟨Tryz.call125,fun hb=>(by cases hb),fun _ w X args vals hX hargs hgl hpre=>?_,fun hb=>(by cases hb)⟩
 obtain ⟨s,hs,rfl⟩:=hpre
 obtain ⟨v,u,rfl,⟨rfl,_⟩,⟨rfl,_⟩⟩:=hargs.two_
 obtain ⟨_,_,u,hm,m,rfl⟩:=hgl.2 (1,false) (by decide)
 refine (Tryz.strings_Split s ⟨#[32]⟩ m w (by omega) hm (by decide)).mono ?_
 rintro e w' ⟨he,hw⟩
 have hl:=Lib.splitB_all ⟨#[32]⟩ (by decide) 0 _ s rfl
 rw [jd _ s (ja9 _)] at hw hl
 have hle:=Lib.countB_le ⟨#[32]⟩ (by decide) s.size s (ja9 _)
 refine ⟨_,fun _=>noB,he,?_,?_,(fun j b h=>by cases h),(fun j j2 b h=>by cases h)⟩
 · rw [hw];exact (Below.refl _ _).alloc (ja9 _) _
 have hn:(ao s).length=(aG s.data.toList).length:=by simp [ao]
 have hrl:(af (ao s)).length=(ao s).length:=by simp [af]
 have hcell:∀ k x,(ao s)[k]? = some x→w'.cell? ⟨w.heap.size,k,none⟩=some (.string x):=fun k x hx=>by
  have hb:w'.heap[w.heap.size]? = some (.cells ((ao s).map Value.string).toArray 9 (0,0)):=by rw [hw];exact heap_alloc_new w _
  have hc:w'.cell? ⟨w.heap.size,k,none⟩=((ao s).map Value.string).toArray[k]? := by unfold World.cell?;rw [hb];rfl
  rw [hc,List.getElem?_toArray,jbk,hx]
  rfl
 have hsz:∀ x ∈ ao s,x.size≤maxLen:=fun x hx=>ja0 (fo hx) (ja0 hs (by decide))
 refine ⟨_,rfl,?_⟩
 show RdR T w' _ (.l 9) _ (.l (af (ao s)))
 rw [show Lib.countB s ⟨#[32]⟩+1=(af (ao s)).length by omega]
 refine .sl 9 _ _ 0 _ _ (fun k _=>((ao s)[k]?).elim undef Value.string) (show T 9=some _ from rfl) (ja9 _) (by simp only [maxLen];omega) ?_ ?_ (fun k j hk hj=>?_) (fun k row hk=>?_) (fun k j ct d row hk hct hd=>?_)
 · rintro (h|⟨j,h⟩)
   · exact absurd (hX _ h) (Nat.lt_irrefl _)
   · cases h
 · rw [hw];exact (jbY.1 (heap_alloc_new w _)).1
 · have hk' : k < (ao s).length:=by omega
   obtain rfl:j=0:=by simpa using hj
   show w'.cell? ⟨w.heap.size,0+k * 1+0,none⟩=_
   rw [show 0+k * 1+0=k by omega]
   rw [hcell k _ (jaS hk'),jaS hk']
   rfl
 · simp only [af,jbk] at hk
   cases hx:(ao s)[k]? with
   | none=>rw [hx] at hk;cases hk
   | some x=>rw [hx] at hk;obtain rfl:=jaW hk;rfl
 · simp only [af,jbk] at hk
   cases hx:(ao s)[k]? with
   | none=>rw [hx] at hk;cases hk
   | some x =>
     rw [hx] at hk
     obtain rfl:=jaW hk
     obtain rfl:j=0:=by
      have:=(ja3.1 hd).1
      simpa using this
     obtain rfl:=jaW hct
     obtain rfl:=jaW hd
     exact .str x (hsz x (jbd hx))
end Ab
end Go.Proofs.YtkpnfbdoaljkpaaGreatDoor
namespace Go.Proofs.YtkpnfbdoaljkpaaGreatDoor.Ab
open Go.RowKit
set_option linter.all false
set_option maxRecDepth 100000
theorem ok155:FOk Tryz.prog T 155 (yL (-999999999999) 999999999999):=by
 refine fok (env:=envL [(126,wm)]) (N:=13) tabT (aa okParse ae) mixed Tryz.func155 rfl Tryz.call155 Tryz.ntmps155 ?_
 rintro args ⟨s,hs,rfl⟩ hwf
 refine ⟨by simp,?_⟩
 clear hwf
 rw [Tryz.results155]
 repeat' first
  | (refine And.intro ?_ ?_)
  | (intro h;simp only [reduceCtorEq] at h;done)
  | (intro h;rw [h])
  | (intro h)
 all_goals first
  | (show ac _=true;kernel_rfl)|(show aj _ _=true;kernel_rfl)|exact True.intro|exact Or.inr rfl|exact Or.inl rfl
  | exact rfl
  | exact ⟨_,rfl⟩
  | exact ⟨_,_,_,hs,by decide,by decide,rfl⟩
  | skip
theorem ok127:FOk Tryz.prog T 127 qG:=by
 refine fokB (env:=envL []) (N:=28) tabT ae mixed Tryz.func127 rfl Tryz.call127 Tryz.ntmps127 ?_
 rintro cs args ⟨rows,b,he⟩ hwf
 simp only [jbj,SV.tup.injEq,jbn,true_and,and_true] at he
 obtain ⟨rfl,rfl⟩:=he
 refine ⟨by simp,?_⟩
 clear hwf
 rw [Tryz.results127]
 repeat' first
  | (refine And.intro ?_ ?_)
  | (intro h;simp only [reduceCtorEq] at h;done)
  | (intro h;rw [h])
  | (intro h)
 all_goals first
  | (show ac _=true;kernel_rfl)|(show aj _ _=true;kernel_rfl)|exact True.intro|exact Or.inr rfl|exact Or.inl rfl
  | exact rfl
  | exact ⟨_,rfl⟩
  | (have hh:=jaf (rows:=rows) (by with_reducible assumption);first|exact resS hh.1|exact updNo hh.2)
  | (have hh:=xA (rows:=rows) (by with_reducible assumption);first|omega|exact resS hh.1|exact yg hh.2)
  | skip
theorem ok69:FOk Tryz.prog T 69 uR:=by
 refine fokB (env:=envL [(127,qG),(126,wm)]) (N:=22) tabT (aa ok127 (aa okParse ae)) mixed Tryz.func69 rfl Tryz.call69 Tryz.ntmps69 ?_
 rintro cs args ⟨rows,b,hs,he⟩ hwf
 simp only [jbj,SV.tup.injEq,jbn,true_and,and_true] at he
 obtain ⟨rfl,rfl⟩:=he
 refine ⟨by simp,?_⟩
 clear hwf
 rw [Tryz.results69]
 repeat' first
  | (refine And.intro ?_ ?_)
  | (intro h;simp only [reduceCtorEq] at h;done)
  | (intro h;rw [h])
  | (intro h)
 all_goals first
  | (show ac _=true;kernel_rfl)|(show aj _ _=true;kernel_rfl)|exact True.intro|exact Or.inr rfl|exact Or.inl rfl
  | exact rfl
  | exact ⟨_,rfl⟩
  | exact ⟨_,_,rfl⟩
  | exact ⟨_,_,_,ja0 (ls hs) (by decide),by decide,by decide,rfl⟩
  | (refine updB ?_;simp_all [gj];done)
  | skip
theorem ok70:FOk Tryz.prog T 70 uP:=by
 refine fokB (env:=envL [(127,qG),(128,yO)]) (N:=22) tabT (aa ok127 (aa okDecI ae)) mixed Tryz.func70 rfl Tryz.call70 Tryz.ntmps70 ?_
 rintro cs args ⟨rows,b,hs,he⟩ hwf
 simp only [jbj,SV.tup.injEq,jbn,true_and,and_true] at he
 obtain ⟨rfl,rfl⟩:=he
 refine ⟨by simp,?_⟩
 clear hwf
 rw [Tryz.results70]
 repeat' first
  | (refine And.intro ?_ ?_)
  | (intro h;simp only [reduceCtorEq] at h;done)
  | (intro h;rw [h])
  | (intro h)
 all_goals first
  | (show ac _=true;kernel_rfl)|(show aj _ _=true;kernel_rfl)|exact True.intro|exact Or.inr rfl|exact Or.inl rfl
  | exact rfl
  | exact ⟨_,rfl⟩
  | exact ⟨_,_,rfl⟩
  | exact ⟨_,ls hs,rfl⟩
  | (refine updB ?_;simp_all;done)
  | skip
theorem ok64:FOk Tryz.prog T 64 (jf true):=by
 refine fok (env:=envL []) (N:=36) tabT ae mixed Tryz.func64 rfl Tryz.call64 Tryz.ntmps64 ?_
 rintro args ⟨s,hs,rfl⟩ hwf
 refine ⟨by simp,?_⟩
 clear hwf
 rw [Tryz.results64]
 repeat' first
  | (refine And.intro ?_ ?_)
  | (intro h;simp only [reduceCtorEq] at h;done)
  | (intro h;rw [h])
  | (intro h)
 all_goals first
  | (show ac _=true;kernel_rfl)|(show aj _ _=true;kernel_rfl)|exact True.intro|exact Or.inr rfl|exact Or.inl rfl
  | exact rfl
  | skip
 refine ar (Q:=_) [0,1,5,6,7] [] (fun n st=>∃ (o:List ByteArray) (fr i:Nat),st=([sArg s,.val false [.i .u8 32],.val false [.sl true 9 (af o)],iArg (fr:Int),iArg (i:Int)],[])∧SpI s o fr i∧n=s.size+1 - i) ?_ ?_
 · exact ⟨rfl,s.size+1,[],0,0,rfl,SpI.zero s,rfl⟩
 rintro n st ⟨o,fr,i,rfl,hI,rfl⟩
 repeat' first
  | (refine And.intro ?_ ?_)
  | (intro h;simp only [reduceCtorEq] at h;done)
  | (intro h;rw [h])
  | (intro h)
 all_goals first
  | (show ac _=true;kernel_rfl)|(show aj _ _=true;kernel_rfl)|exact True.intro|exact Or.inr rfl|exact Or.inl rfl
  | with_reducible exact ja7 _
  | (have hd:decide ((i:Int)≤(s.size:Int))=true:=by with_reducible assumption
     have hle:i≤s.size:=by have:=jaT hd;omega
     have hl:=hI.le hle
     first
      | omega
      | (show (af o).length+1≤maxLen;rw [af,ja5];simp only [maxLen];omega)
      | (show ((af o).length+1) * 16≤140737488355328;rw [af,ja5];omega)
      | (have he:((i:Int) == (s.size:Int))=true:=by with_reducible assumption
         have hi:i=s.size:=by have:=eq_of_beq he;omega
         refine ⟨s.size+1 - (i+1),by omega,o++[s.extract fr i],i+1,i+1,?_,hI.full hi,rfl⟩
         exact wI (f:=fun x y z=>(([sArg s,.val false [.i .u8 32],.val false [.sl true 9 x],iArg y,iArg z],[]):Snap)) (fq _ _) (IntWalk.i64_in _ (by omega)) (IntWalk.i64_in _ (by omega)))
      | (have he:((i:Int) == (s.size:Int))=false:=by with_reducible assumption
         have hi:i < s.size:=by have h2:(i:Int) ≠ (s.size:Int):=(by simpa using he);omega
         first
          | omega
          | (have hb:=(byte_of (s:=s) (i:=i) (by with_reducible assumption)).1 rfl
             refine ⟨s.size+1 - (i+1),by omega,o++[s.extract fr i],i+1,i+1,?_,hI.space hi hb,rfl⟩
             exact wI (f:=fun x y z=>(([sArg s,.val false [.i .u8 32],.val false [.sl true 9 x],iArg y,iArg z],[]):Snap)) (fq _ _) (IntWalk.i64_in _ (by omega)) (IntWalk.i64_in _ (by omega)))
          | (have hb:=(byte_of (s:=s) (i:=i) (by with_reducible assumption)).2 rfl
             refine ⟨s.size+1 - (i+1),by omega,o,fr,i+1,?_,hI.miss hi hb,rfl⟩
             exact wI (f:=fun x y z=>(([sArg s,.val false [.i .u8 32],.val false [.sl true 9 x],iArg y,iArg z],[]):Snap)) rfl rfl (IntWalk.i64_in _ (by omega)))
          | (show aL [] _;exact rfl)
          | skip)
      | (show aL [] _;exact rfl)
      | skip)
  | (have hd:decide ((i:Int)≤(s.size:Int))=false:=by with_reducible assumption
     have hle:¬ i≤s.size:=by have:=ja4 hd;omega
     exact congrArg (fun z=>[CV.sl true 9 (af z)]) (hI.done hle))
  | skip
theorem ok68:FOk Tryz.prog T 68 (jf false):=by
 refine fok (env:=envL [(125,oI)]) (N:=10) tabT (aa okSplit2 ae) mixed Tryz.func68 rfl Tryz.call68 Tryz.ntmps68 ?_
 rintro args ⟨s,hs,rfl⟩ hwf
 refine ⟨by simp,?_⟩
 clear hwf
 rw [Tryz.results68]
 repeat' first
  | (refine And.intro ?_ ?_)
  | (intro h;simp only [reduceCtorEq] at h;done)
  | (intro h;rw [h])
  | (intro h)
 all_goals first
  | (show ac _=true;kernel_rfl)|(show aj _ _=true;kernel_rfl)|exact True.intro|exact Or.inr rfl|exact Or.inl rfl
  | exact rfl
  | exact ⟨_,rfl⟩
  | exact ⟨_,hs,rfl⟩
  | skip
end Go.Proofs.YtkpnfbdoaljkpaaGreatDoor.Ab
