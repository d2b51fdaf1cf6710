/- A part. -/
import Derived.Test.YtdjfhmghebommaaGreatDoorDMk
import Derived.Deep.WholeRow
import Derived.Test.YtdjfhmghebommaaGreatDoorDMh
import Derived.Test.YtdjfhmghebommaaGreatDoorDEe
import Derived.Test.YtdjfhmghebommaaGreatDoorDWr
namespace Go.Proofs.YtdjfhmghebommaaGreatDoor
open Go.RowKit Ab
set_option linter.all false
set_option maxRecDepth 100000
set_option maxHeartbeats 8000000
abbrev cVx:List CT:=cO
theorem lD {T:Tab} {w:World} {X:Nat→Prop} {bk:Nat→Nat→Prop} {v:Value} {cs:List CV} {b:Int} (h:ResR T w X bk v (.tup [(true,cs),(false,[.i .i64 b])])):∃ x,v=.tuple #[x,.int .i64 b]∧TupR T w X bk 0 x (true,cs):=by
 obtain ⟨arr,rfl,hl,hc⟩:=h
 match arr,hl with
 | [x,y],_ =>
   have h0:=hc 0 _ x rfl rfl
   obtain ⟨c,h1,h2,h3⟩:=(hc 1 _ y rfl rfl).2 rfl
   obtain rfl:CV.i .i64 b=c:=by simpa using h1
   obtain rfl:y=.int .i64 b:=h3.1
   exact ⟨x,rfl,h0⟩
theorem bG {w:World} {b:Nat} {us:List Value} (h:BoxAt w b us.toArray):w.rangeAt b 0 us:=fun j v hv=>by
 rw [jcv]
 exact h.2 j v (by simpa using hv)
theorem szT {us:List Value} (hl:us.length=17):(Tryz.prog.info? 29).map (·.size)=some us.length:=by rw [hl];kernel_rfl
theorem en {us:List Value} (w:World) (hl:us.length=17) (h1:us.toArray.all (·.oneCell')=true):(storeCells ⟨w.heap.size,0,none⟩ us 0).run Tryz.prog (w.alloc (.cells #[.int .i64 0,.int .i64 0,.int .i64 0,.slice none 0 0,.int .i64 0,.int .i64 0,.int .i64 0,.int .i64 0,.int .i64 0,.string ⟨#[]⟩,.string ⟨#[]⟩,.int .i64 0,.string ⟨#[]⟩,.string ⟨#[]⟩,.int .i64 0,.int .i64 0,.slice none 0 0] 29))=.ok () (w.alloc (.cells us.toArray 29)) :=
 run_storeCells_new w 29 #[.int .i64 0,.int .i64 0,.int .i64 0,.slice none 0 0,.int .i64 0,.int .i64 0,.int .i64 0,.int .i64 0,.int .i64 0,.string ⟨#[]⟩,.string ⟨#[]⟩,.int .i64 0,.string ⟨#[]⟩,.string ⟨#[]⟩,.int .i64 0,.int .i64 0,.slice none 0 0] us.toArray (by rw [jcm,hl];kernel_rfl) (by simp [hl]) h1
theorem j6 {T:Tab} {w:World} {cts:List CT} {us:List Value} {row:List D} (h:ReadRow T w cts us row):us.toArray.all (·.oneCell')=true:=by
 rw [List.all_toArray,jcb]
 intro u hu
 obtain ⟨i,hi,rfl⟩:=List.getElem_of_mem hu
 have hc:=h.len
 have hr:=h.rlen
 have:=h.cell i _ _ _ (jbN (by omega)) (jbN hi) (jbN (by omega))
 generalize us[i]=u at this ⊢
 generalize cts[i]'(by omega)=ct at this
 generalize row[i]'(by omega)=d at this
 cases this <;> rfl
theorem yq (mt:Int→ByteArray) (hmt:FOk Tryz.prog T 40 (spMT mt)) {pv:ByteArray→Int→List D × Int} (hwf:∀ (s:ByteArray) (k:Int),s.size≤1048576→WfRow T cVx (pv s k).1) (hct:∀ (s:ByteArray) (k:Int),s.size≤1048576→1+(cSl (pv s k).1:Int)≤4611686018427387904)
 (hS:FOk Tryz.prog T 11 (spPR cVx pv)) (hI:FOk Tryz.prog Td 12 (lQ cVx pv)) (s:ByteArray) (k:Int) (hs:s.size≤1048576) (hk:inK .i64 k) (W:World) (hL:GlR T W (fun _=>False)) :
 Calls Tryz.prog 4 #[.string s,.int .i64 k] W fun e W' => e=.returned (.bool true)∧Below W.heap.size W W' := by
 have hsm:s.size≤maxLen:=jbV hs (by decide)
 have HL:=Lib.hid hL
 clear hL
 have hwS:=hwf s k hs
 have hcS:=hct s k hs
 have hwH:=Lib.hid hwS
 have hcH:=Lib.hid hcS
 clear hwf hct hwS hcS
 go_enter Tryz.func4,Tryz.ntmps4
 go_wp2_with fail
 refine (hS.ok rfl W (fun _=>False) [sArg s,iArg k] [.string s,.int .i64 k] (fun b h=>h.elim) (ArgsR.cons ⟨_,rfl,rfl,hsm⟩ (ArgsR.cons ⟨_,rfl,rfl,hk⟩ ArgsR.nil)) HL.out ⟨s,k,hs,rfl⟩).mono ?_
 rintro e w1 ⟨v,bk,rfl,hb1,hr1, -, -⟩
 obtain ⟨x,rfl,ht1⟩:=lD hr1
 obtain ⟨us,rfl,R1⟩:=ReadRow.of_tup ht1 hwH.out
 have HR1:=Lib.hid R1
 have HB1:=Lib.hid hb1
 clear hr1 ht1 hb1 R1
 have hl1:=HR1.out.len
 have S1:=en w1 hl1 (j6 HR1.out)
 go_wp2_with fail
 clear S1
 have v1b:=uy HB1.out (.cells us.toArray 29)
 have hg1:=HL.out.bel v1b
 refine (hI.ok rfl _ (fun _=>False) [sArg s,iArg k] [.string s,.int .i64 k] (fun b h=>h.elim) (ArgsR.cons ⟨_,rfl,rfl,hsm⟩ (ArgsR.cons ⟨_,rfl,rfl,hk⟩ ArgsR.nil)) (hg1.on true) ⟨s,k,hs,rfl⟩).mono ?_
 rintro e w2 ⟨v,bk2,rfl,hb2,hr2,hlt2,hinj2⟩
 obtain ⟨x,rfl,ht2⟩:=lD hr2
 obtain ⟨us2,rfl,D2⟩:=DeepRow.of_tup ht2 hwH.out (fun j b h=>(hlt2 j b h).2) hinj2
 obtain ⟨F,hF⟩:∃ F:Nat→Nat→Prop,(fun i=>bk2 (tix 0 i))=F:=⟨_,rfl⟩
 have hfr:∀ i b,F i b→w1.heap.size < b:=fun i b h=>by
  rw [← hF] at h
  have:=(hlt2 _ b h).1
  simp at this
  omega
 rw [hF] at D2
 have HD2:=Lib.hid D2
 have HB2:=Lib.hid hb2
 have HG1:=Lib.hid hg1
 have HV1:=Lib.hid v1b
 have HF:=Lib.hid hfr
 clear hr2 ht2 hb2 D2 hlt2 hinj2 hF hg1 v1b hfr
 have HR2:=Lib.hid HD2.out.reads
 have hl2:=HR2.out.len
 have S2:=en w2 hl2 (j6 HR2.out)
 have X1:=Lib.hid ((BoxAt.new w1 us.toArray 29).bel HB2.out)
 have C2:=Lib.hid (Below.trans ((Below.refl w1.heap.size w1).alloc (jb4 _) (.cells us.toArray 29)) (HB2.out.mono (by simp)))
 have hsz2:w1.heap.size < w2.heap.size:=X1.out.1
 go_upto_region 5 with fail
 have b1:=bG (BoxAt.new w2 us2.toArray 29)
 have b2:=bG (X1.out.bel ((Below.refl w2.heap.size w2).alloc (jb4 _) (.cells us2.toArray 29)))
 have s1:=szT hl1
 have s2:=szT hl2
 go_wp2_with (first|(refine wpList_load_mid rfl 29 _ rfl _ 0 rfl us2 _ b1 Tryz.underlying29 rfl s2 ?_)|(refine wpList_load_mid rfl 29 _ rfl _ 0 rfl us _ b2 Tryz.underlying29 rfl s1 ?_))
 clear b1 b2 s1 s2 S2
 have v2b:=(Below.refl w2.heap.size w2).alloc (jb4 _) (.cells us2.toArray 29)
 have X1a:=X1.out.bel v2b
 have X2a:=BoxAt.new w2 us2.toArray 29
 have C2a:=C2.out.trans (v2b.mono (Nat.le_of_lt hsz2))
 have HW2:=HB1.out.trans (C2a.mono HB1.out.size)
 refine (Ab.ok8.ok rfl _ (fun _=>False) [argG cVx (pv s k).1,argG cVx (pv s k).1] [_,_] (fun b h=>h.elim) (ArgsR.cons (HR2.out.bel v2b).arg (ArgsR.cons (HR1.out.bel C2a).arg ArgsR.nil)) (HL.out.bel HW2) ⟨_,_,hwH.out,hwH.out,rfl⟩).mono ?_
 rintro e w3 ⟨v,bk3,rfl,hb3,hr3, -, -⟩
 obtain rfl:v=.bool true:=by rw [fv hr3];exact congrArg Value.bool (decide_eq_true rfl)
 have X1:=Lib.hid (X1a.bel hb3)
 have X2:=Lib.hid (X2a.bel hb3)
 have C3:=Lib.hid (C2a.trans (hb3.mono (by simp;omega)))
 have HW3:=Lib.hid (HB1.out.trans (C3.out.mono HB1.out.size))
 have HD3:=Lib.hid ((HD2.out.bel v2b).bel hb3)
 clear hb3 hr3 X1a X2a C2a HW2 v2b
 have y1:=bG X2.out
 have s2:=szT hl2
 go_wp2_with (refine wpList_load_mid rfl 29 _ rfl _ 0 rfl us2 _ y1 Tryz.underlying29 rfl s2 ?_)
 clear y1 s2
 have hFW:∀ i b,F i b→W.heap.size≤b:=fun i b h=>by have:=HF.out i b h;have:=HB1.out.size;omega
 refine (wF mt hmt w3 F _ (pv s k).1 1 (by decide) hcH.out (HL.out.far HW3.out hFW) HD3.out).mono ?_
 rintro e w4 ⟨rfl,hm4⟩
 have X1b:=Lib.hid (X1.out.mark hm4 (fun i h=>Nat.lt_irrefl _ (HF.out i _ h)))
 have X2b:=Lib.hid (X2.out.mark hm4 (fun i h=>Nat.lt_irrefl _ (HD2.out.lt i _ h)))
 have C4:=Lib.hid (C3.out.trans (hm4.below (fun i b h=>Nat.le_of_lt (HF.out i b h)) (C3.out.size)))
 have HW4:=Lib.hid (HB1.out.trans (C4.out.mono HB1.out.size))
 have HG4:=Lib.hid (hm4.glF (HL.out.far HW3.out hFW))
 have HM4:=Lib.hid hm4.deep
 clear hm4
 have hq:cSl (csD (rowC cVx (mkSl mt 1 (pv s k).1)))=cSl (pv s k).1:=by rw [au HM4.out.wf,lz]
 have y1:=bG X2b.out
 have s2:=szT hl2
 go_wp2_with (refine wpList_load_mid rfl 29 _ rfl _ 0 rfl us2 _ y1 Tryz.underlying29 rfl s2 ?_)
 clear y1 s2
 refine ((Ab.hg10 mt hmt).ok rfl _ (fun _=>False) [argG cVx (mkSl mt 1 (pv s k).1),.val false [.i .i64 1]] [_,_] (fun b h=>h.elim) (ArgsR.cons HM4.out.reads.arg (ArgsR.cons ⟨_,rfl,rfl,aU (by decide) (by decide)⟩ ArgsR.nil)) HG4.out ⟨(pv s k).1,1,by decide,hcH.out,hwH.out,rfl⟩).mono ?_
 rintro e w5 ⟨v,bk5,rfl,hb5,hr5, -, -⟩
 obtain rfl:v=.int .i64 (1+cSl (pv s k).1):=by
  rw [iC hr5]
  exact congrArg (fun z:Nat=>Value.int .i64 (1+(z:Int))) hq
 have X1c:=Lib.hid (X1b.out.bel hb5)
 have X2c:=Lib.hid (X2b.out.bel hb5)
 have C5:=Lib.hid (C4.out.trans (hb5.mono C4.out.size))
 have HW5:=Lib.hid (HB1.out.trans (C5.out.mono HB1.out.size))
 have HM5:=Lib.hid (HM4.out.bel hb5)
 clear hb5 hr5
 have hc0:0≤1+(cSl (pv s k).1:Int):=by omega
 have hc1:¬ (1+(cSl (pv s k).1:Int) < 0):=by omega
 go_wp2_with fail
 refine (hI.ok rfl _ (fun _=>False) [sArg s,iArg k] [.string s,.int .i64 k] (fun b h=>h.elim) (ArgsR.cons ⟨_,rfl,rfl,hsm⟩ (ArgsR.cons ⟨_,rfl,rfl,hk⟩ ArgsR.nil)) ((HL.out.bel HW5.out).on true) ⟨s,k,hs,rfl⟩).mono ?_
 rintro e w6 ⟨v,bk6,rfl,hb6,hr6,hlt6,hinj6⟩
 obtain ⟨x,rfl,ht6⟩:=lD hr6
 obtain ⟨us3,rfl,D6⟩:=DeepRow.of_tup ht6 hwH.out (fun j b h=>(hlt6 j b h).2) hinj6
 have HR6:=Lib.hid D6.reads
 have X1d:=Lib.hid (X1c.out.bel hb6)
 have X2d:=Lib.hid (X2c.out.bel hb6)
 have C6:=Lib.hid (C5.out.trans (hb6.mono C5.out.size))
 have HM6:=Lib.hid (HM5.out.bel hb6)
 clear hr6 ht6 hb6 D6 hlt6 hinj6
 have hl6:=HR6.out.len
 have S6:=en w6 hl6 (j6 HR6.out)
 have hs1:=X1d.out.1
 go_upto_region 16 with fail
 have b1:=bG (BoxAt.new w6 us3.toArray 29)
 have b2:=bG (X1d.out.bel ((Below.refl w6.heap.size w6).alloc (jb4 _) (.cells us3.toArray 29)))
 have s1:=szT hl1
 have s6:=szT hl6
 go_wp2_with (first|(refine wpList_load_mid rfl 29 _ rfl _ 0 rfl us3 _ b1 Tryz.underlying29 rfl s6 ?_)|(refine wpList_load_mid rfl 29 _ rfl _ 0 rfl us _ b2 Tryz.underlying29 rfl s1 ?_))
 clear b1 b2 s1 s6 S6
 have v6b:=(Below.refl w6.heap.size w6).alloc (jb4 _) (.cells us3.toArray 29)
 have C6a:=C6.out.trans (v6b.mono C6.out.size)
 refine (Ab.ok8.ok rfl _ (fun _=>False) [argG cVx (pv s k).1,argG cVx (pv s k).1] [_,_] (fun b h=>h.elim) (ArgsR.cons (HR6.out.bel v6b).arg (ArgsR.cons (HR1.out.bel C6a).arg ArgsR.nil)) (HL.out.bel (HB1.out.trans (C6a.mono HB1.out.size))) ⟨_,_,hwH.out,hwH.out,rfl⟩).mono ?_
 rintro e w7 ⟨v,bk7,rfl,hb7,hr7, -, -⟩
 obtain rfl:v=.bool true:=by rw [fv hr7];exact congrArg Value.bool (decide_eq_true rfl)
 have X2e:=Lib.hid ((X2d.out.bel v6b).bel hb7)
 have C7:=Lib.hid (C6a.trans (hb7.mono C6a.size))
 have HW7:=Lib.hid (HB1.out.trans (C7.out.mono HB1.out.size))
 have HM7:=Lib.hid ((HM6.out.bel v6b).bel hb7)
 clear hb7 hr7 v6b C6a
 have y1:=bG X2e.out
 have s2:=szT hl2
 go_wp2_with (refine wpList_load_mid rfl 29 _ rfl _ 0 rfl us2 _ y1 Tryz.underlying29 rfl s2 ?_)
 clear y1 s2
 refine ((Ab.hg10 mt hmt).ok rfl _ (fun _=>False) [argG cVx (mkSl mt 1 (pv s k).1),.val false [.i .i64 1]] [_,_] (fun b h=>h.elim) (ArgsR.cons HM7.out.reads.arg (ArgsR.cons ⟨_,rfl,rfl,aU (by decide) (by decide)⟩ ArgsR.nil)) (HL.out.bel HW7.out) ⟨(pv s k).1,1,by decide,hcH.out,hwH.out,rfl⟩).mono ?_
 rintro e w8 ⟨v,bk8,rfl,hb8,hr8, -, -⟩
 obtain rfl:v=.int .i64 (1+cSl (pv s k).1):=by
  rw [iC hr8]
  exact congrArg (fun z:Nat=>Value.int .i64 (1+(z:Int))) hq
 go_wp2
 go_ret
 exact ⟨rfl,HW7.out.trans (hb8.mono HW7.out.size)⟩
end Go.Proofs.YtdjfhmghebommaaGreatDoor
