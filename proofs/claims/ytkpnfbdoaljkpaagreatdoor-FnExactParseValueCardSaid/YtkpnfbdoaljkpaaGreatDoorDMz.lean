/- The law FnExactParseValue, walked over any reader of -/
import Derived.Test.YtkpnfbdoaljkpaaGreatDoorDMk
import Derived.Test.YtkpnfbdoaljkpaaGreatDoorDFa
import Derived.Test.YtkpnfbdoaljkpaaGreatDoorDMh
import Derived.Test.YtkpnfbdoaljkpaaGreatDoorDMo
import Derived.Test.YtkpnfbdoaljkpaaGreatDoorDEe
import Derived.Test.YtkpnfbdoaljkpaaGreatDoorDLx
namespace Go.Proofs.YtkpnfbdoaljkpaaGreatDoor
open Go.RowKit Ab
set_option linter.unusedVariables false
set_option linter.unusedSimpArgs false
set_option maxRecDepth 100000
set_option maxHeartbeats 4000000
abbrev cVx:List CT:=[.i .i64,.i .i64,.i .i64,.s,.l 53,.l 9,.l 131]
theorem lawPV (mt:Int→ByteArray) (hmt:FOk Tryz.prog T 81 (spMT mt)) {pv:ByteArray→List D × Bool} (hwf:∀ s:ByteArray,s.size≤1048576→WfRow T cVx (pv s).1) (hct:∀ s:ByteArray,s.size≤1048576→1+(cSl (pv s).1:Int)≤4611686018427387904)
    (hS:FOk Tryz.prog T 24 (spPV2 cVx pv)) (hI:FOk Tryz.prog Td 25 (spPV2O cVx pv)) (s:ByteArray) (hs:s.size≤1048576) (W:World) (hL:GlR T W (fun _=>False)) :
    Calls Tryz.prog 5 #[.string s] W fun e W' => e=.returned (.bool true)∧Below W.heap.size W W' := by
  have hsm:s.size≤maxLen:=Nat.le_trans hs (by decide)
  have HL:=Lib.hid hL
  clear hL
  go_enter Tryz.func5,Tryz.ntmps5
  go_wp2_with fail
  refine (hS.ok rfl W (fun _=>False) [sArg s] [.string s] (fun b h=>h.elim) (ArgsR.cons ⟨_,rfl,rfl,hsm⟩ ArgsR.nil) HL.out ⟨s,hs,rfl⟩).mono ?_
  rintro e w1 ⟨v,bk,rfl,hb1,hr1, -, -⟩
  obtain ⟨x,rfl,ht1⟩:=two_tup hr1
  obtain ⟨us,rfl,R1⟩:=ReadRow.of_tup ht1 (hwf s hs)
  have HR1:=Lib.hid R1
  have HB1:=Lib.hid hb1
  clear hr1 ht1 hb1 R1
  match us,HR1.out.len with
  | [a0,a1,a2,a3,a4,a5,a6],_ =>
  obtain ⟨n0,rfl⟩:=(HR1.out.at_ 0 rfl rfl).int_inv
  obtain ⟨n1,rfl⟩:=(HR1.out.at_ 1 rfl rfl).int_inv
  obtain ⟨n2,rfl⟩:=(HR1.out.at_ 2 rfl rfl).int_inv
  obtain ⟨n3,rfl⟩:=(HR1.out.at_ 3 rfl rfl).str_inv
  obtain ⟨A4,l4,c4,rfl⟩:=(HR1.out.at_ 4 rfl rfl).slice
  obtain ⟨A5,l5,c5,rfl⟩:=(HR1.out.at_ 5 rfl rfl).slice
  obtain ⟨A6,l6,c6,rfl⟩:=(HR1.out.at_ 6 rfl rfl).slice
  go_wp2_with fail
  have v1b:=allocB HB1.out (.cells #[.int .i64 n0,.int .i64 n1,.int .i64 n2,.string n3,.slice A4 l4 c4,.slice A5 l5 c5,.slice A6 l6 c6] 53)
  have hg1:=HL.out.bel v1b
  refine (hI.ok rfl _ (fun _=>False) [sArg s] [.string s] (fun b h=>h.elim) (ArgsR.cons ⟨_,rfl,rfl,hsm⟩ ArgsR.nil) (hg1.on true) ⟨s,hs,rfl⟩).mono ?_
  rintro e w2 ⟨v,bk2,rfl,hb2,hr2,hlt2,hinj2⟩
  obtain ⟨x,rfl,ht2⟩:=two_tup hr2
  obtain ⟨us2,rfl,D2⟩:=DeepRow.of_tup ht2 (hwf s hs) (fun j b h=>(hlt2 j b h).2) hinj2
  obtain ⟨F,hF⟩:∃ F:Nat→Nat→Prop,(fun i=>bk2 (tix 0 i))=F:=⟨_,rfl⟩
  have hfr:∀ i b,F i b→w1.heap.size < b:=fun i b h=>by
    rw [← hF] at h
    have:=(hlt2 _ b h).1
    simp at this
    omega
  rw [hF] at D2
  have HD2:=Lib.hid D2
  have HB2:=Lib.hid hb2
  have HG1:=Lib.hid hg1
  have HV1:=Lib.hid v1b
  have HF:=Lib.hid hfr
  clear hr2 ht2 hb2 D2 hlt2 hinj2 hF hg1 v1b hfr
  have HR2:=Lib.hid HD2.out.reads
  match us2,HR2.out.len with
  | [b0,b1,b2,b3,b4,b5,b6],_ =>
  obtain ⟨m0,rfl⟩:=(HR2.out.at_ 0 rfl rfl).int_inv
  obtain ⟨m1,rfl⟩:=(HR2.out.at_ 1 rfl rfl).int_inv
  obtain ⟨m2,rfl⟩:=(HR2.out.at_ 2 rfl rfl).int_inv
  obtain ⟨m3,rfl⟩:=(HR2.out.at_ 3 rfl rfl).str_inv
  obtain ⟨B4,p4,q4,rfl⟩:=(HR2.out.at_ 4 rfl rfl).slice
  obtain ⟨B5,p5,q5,rfl⟩:=(HR2.out.at_ 5 rfl rfl).slice
  obtain ⟨B6,p6,q6,rfl⟩:=(HR2.out.at_ 6 rfl rfl).slice
  -- two variables: the reference's value and the program's
  have X1:=Lib.hid ((BoxAt.new w1 #[.int .i64 n0,.int .i64 n1,.int .i64 n2,.string n3,.slice A4 l4 c4,.slice A5 l5 c5,.slice A6 l6 c6] 53).bel HB2.out)
  have C2:=Lib.hid (Below.trans ((Below.refl w1.heap.size w1).alloc (Nat.le_refl _) (.cells #[.int .i64 n0,.int .i64 n1,.int .i64 n2,.string n3,.slice A4 l4 c4,.slice A5 l5 c5,.slice A6 l6 c6] 53)) (HB2.out.mono (by simp)))
  have hsz2:w1.heap.size < w2.heap.size:=X1.out.1
  have z0:=X1.out.2 0 _ rfl
  have z1:=X1.out.2 1 _ rfl
  have z2:=X1.out.2 2 _ rfl
  have z3:=X1.out.2 3 _ rfl
  have z4:=X1.out.2 4 _ rfl
  have z5:=X1.out.2 5 _ rfl
  have z6:=X1.out.2 6 _ rfl
  go_wp2_with fail
  have v2b:=(Below.refl w2.heap.size w2).alloc (Nat.le_refl _) (.cells #[.int .i64 m0,.int .i64 m1,.int .i64 m2,.string m3,.slice B4 p4 q4,.slice B5 p5 q5,.slice B6 p6 q6] 53)
  have X1a:=X1.out.bel v2b
  have X2a:=BoxAt.new w2 #[.int .i64 m0,.int .i64 m1,.int .i64 m2,.string m3,.slice B4 p4 q4,.slice B5 p5 q5,.slice B6 p6 q6] 53
  have C2a:=C2.out.trans (v2b.mono (Nat.le_of_lt hsz2))
  have HW2:=HB1.out.trans (C2a.mono HB1.out.size)
  clear z0 z1 z2 z3 z4 z5 z6
  refine (Ab.ok26.ok rfl _ (fun _=>False) [argG cVx (pv s).1,argG cVx (pv s).1] [_,_] (fun b h=>h.elim) (ArgsR.cons (HR2.out.bel v2b).arg (ArgsR.cons (HR1.out.bel C2a).arg ArgsR.nil)) (HL.out.bel HW2) ⟨_,_,hwf s hs,hwf s hs,rfl⟩).mono ?_
  rintro e w3 ⟨v,bk3,rfl,hb3,hr3, -, -⟩
  obtain rfl:v=.bool true:=by rw [one_bool hr3];exact congrArg Value.bool (decide_eq_true rfl)
  have X1:=Lib.hid (X1a.bel hb3)
  have X2:=Lib.hid (X2a.bel hb3)
  have C3:=Lib.hid (C2a.trans (hb3.mono (by simp;omega)))
  have HW3:=Lib.hid (HB1.out.trans (C3.out.mono HB1.out.size))
  have HD3:=Lib.hid ((HD2.out.bel v2b).bel hb3)
  clear hb3 hr3 X1a X2a C2a HW2 v2b
  have y0:=X2.out.2 0 _ rfl
  have y1:=X2.out.2 1 _ rfl
  have y2:=X2.out.2 2 _ rfl
  have y3:=X2.out.2 3 _ rfl
  have y4:=X2.out.2 4 _ rfl
  have y5:=X2.out.2 5 _ rfl
  have y6:=X2.out.2 6 _ rfl
  go_wp2_with fail
  clear y0 y1 y2 y3 y4 y5 y6
  have hFW:∀ i b,F i b→W.heap.size≤b:=fun i b h=>by have:=HF.out i b h;have:=HB1.out.size;omega
  refine (mkG_Value mt hmt w3 F _ (pv s).1 1 (by decide) (hct s hs) (HL.out.far HW3.out hFW) HD3.out).mono ?_
  rintro e w4 ⟨rfl,hm4⟩
  have X1b:=Lib.hid (X1.out.mark hm4 (fun i h=>Nat.lt_irrefl _ (HF.out i _ h)))
  have X2b:=Lib.hid (X2.out.mark hm4 (fun i h=>Nat.lt_irrefl _ (HD2.out.lt i _ h)))
  have C4:=Lib.hid (C3.out.trans (hm4.below (fun i b h=>Nat.le_of_lt (HF.out i b h)) (C3.out.size)))
  have HW4:=Lib.hid (HB1.out.trans (C4.out.mono HB1.out.size))
  have HG4:=Lib.hid (hm4.glF (HL.out.far HW3.out hFW))
  have HM4:=Lib.hid hm4.deep
  clear hm4
  have hq:cSl (csD (rowC cVx (mkSl mt 1 (pv s).1)))=cSl (pv s).1:=by rw [csD_rowC HM4.out.wf,cSl_mk]
  have y0:=X2b.out.2 0 _ rfl
  have y1:=X2b.out.2 1 _ rfl
  have y2:=X2b.out.2 2 _ rfl
  have y3:=X2b.out.2 3 _ rfl
  have y4:=X2b.out.2 4 _ rfl
  have y5:=X2b.out.2 5 _ rfl
  have y6:=X2b.out.2 6 _ rfl
  go_wp2_with fail
  clear y0 y1 y2 y3 y4 y5 y6
  refine ((Ab.hg28 mt hmt).ok rfl _ (fun _=>False) [argG cVx (mkSl mt 1 (pv s).1),.val false [.i .i64 1]] [_,_] (fun b h=>h.elim) (ArgsR.cons HM4.out.reads.arg (ArgsR.cons ⟨_,rfl,rfl,inK_pos (by decide) (by decide)⟩ ArgsR.nil)) HG4.out ⟨(pv s).1,1,by decide,hct s hs,hwf s hs,rfl⟩).mono ?_
  rintro e w5 ⟨v,bk5,rfl,hb5,hr5, -, -⟩
  obtain rfl:v=.int .i64 (1+cSl (pv s).1):=by
    rw [one_int hr5]
    exact congrArg (fun z:Nat=>Value.int .i64 (1+(z:Int))) hq
  have X1c:=Lib.hid (X1b.out.bel hb5)
  have X2c:=Lib.hid (X2b.out.bel hb5)
  have C5:=Lib.hid (C4.out.trans (hb5.mono C4.out.size))
  have HW5:=Lib.hid (HB1.out.trans (C5.out.mono HB1.out.size))
  have HM5:=Lib.hid (HM4.out.bel hb5)
  clear hb5 hr5
  have hc0:0≤1+(cSl (pv s).1:Int):=by omega
  have hc1:¬ (1+(cSl (pv s).1:Int) < 0):=by omega
  go_wp2_with fail
  refine (hI.ok rfl _ (fun _=>False) [sArg s] [.string s] (fun b h=>h.elim) (ArgsR.cons ⟨_,rfl,rfl,hsm⟩ ArgsR.nil) ((HL.out.bel HW5.out).on true) ⟨s,hs,rfl⟩).mono ?_
  rintro e w6 ⟨v,bk6,rfl,hb6,hr6,hlt6,hinj6⟩
  obtain ⟨x,rfl,ht6⟩:=two_tup hr6
  obtain ⟨us3,rfl,D6⟩:=DeepRow.of_tup ht6 (hwf s hs) (fun j b h=>(hlt6 j b h).2) hinj6
  have HR6:=Lib.hid D6.reads
  have X1d:=Lib.hid (X1c.out.bel hb6)
  have X2d:=Lib.hid (X2c.out.bel hb6)
  have C6:=Lib.hid (C5.out.trans (hb6.mono C5.out.size))
  have HM6:=Lib.hid (HM5.out.bel hb6)
  clear hr6 ht6 hb6 D6 hlt6 hinj6
  match us3,HR6.out.len with
  | [b0,b1,b2,b3,b4,b5,b6],_ =>
  obtain ⟨h0,rfl⟩:=(HR6.out.at_ 0 rfl rfl).int_inv
  obtain ⟨h1,rfl⟩:=(HR6.out.at_ 1 rfl rfl).int_inv
  obtain ⟨h2,rfl⟩:=(HR6.out.at_ 2 rfl rfl).int_inv
  obtain ⟨h3,rfl⟩:=(HR6.out.at_ 3 rfl rfl).str_inv
  obtain ⟨D4,s4,t4,rfl⟩:=(HR6.out.at_ 4 rfl rfl).slice
  obtain ⟨D5,s5,t5,rfl⟩:=(HR6.out.at_ 5 rfl rfl).slice
  obtain ⟨D6,s6,t6,rfl⟩:=(HR6.out.at_ 6 rfl rfl).slice
  have hs1:=X1d.out.1
  have z0:=X1d.out.2 0 _ rfl
  have z1:=X1d.out.2 1 _ rfl
  have z2:=X1d.out.2 2 _ rfl
  have z3:=X1d.out.2 3 _ rfl
  have z4:=X1d.out.2 4 _ rfl
  have z5:=X1d.out.2 5 _ rfl
  have z6:=X1d.out.2 6 _ rfl
  go_wp2_with fail
  clear z0 z1 z2 z3 z4 z5 z6
  have v6b:=(Below.refl w6.heap.size w6).alloc (Nat.le_refl _) (.cells #[.int .i64 h0,.int .i64 h1,.int .i64 h2,.string h3,.slice D4 s4 t4,.slice D5 s5 t5,.slice D6 s6 t6] 53)
  have C6a:=C6.out.trans (v6b.mono C6.out.size)
  refine (Ab.ok26.ok rfl _ (fun _=>False) [argG cVx (pv s).1,argG cVx (pv s).1] [_,_] (fun b h=>h.elim) (ArgsR.cons (HR6.out.bel v6b).arg (ArgsR.cons (HR1.out.bel C6a).arg ArgsR.nil)) (HL.out.bel (HB1.out.trans (C6a.mono HB1.out.size))) ⟨_,_,hwf s hs,hwf s hs,rfl⟩).mono ?_
  rintro e w7 ⟨v,bk7,rfl,hb7,hr7, -, -⟩
  obtain rfl:v=.bool true:=by rw [one_bool hr7];exact congrArg Value.bool (decide_eq_true rfl)
  have X2e:=Lib.hid ((X2d.out.bel v6b).bel hb7)
  have C7:=Lib.hid (C6a.trans (hb7.mono C6a.size))
  have HW7:=Lib.hid (HB1.out.trans (C7.out.mono HB1.out.size))
  have HM7:=Lib.hid ((HM6.out.bel v6b).bel hb7)
  clear hb7 hr7 v6b C6a
  have y0:=X2e.out.2 0 _ rfl
  have y1:=X2e.out.2 1 _ rfl
  have y2:=X2e.out.2 2 _ rfl
  have y3:=X2e.out.2 3 _ rfl
  have y4:=X2e.out.2 4 _ rfl
  have y5:=X2e.out.2 5 _ rfl
  have y6:=X2e.out.2 6 _ rfl
  go_wp2_with fail
  clear y0 y1 y2 y3 y4 y5 y6
  refine ((Ab.hg28 mt hmt).ok rfl _ (fun _=>False) [argG cVx (mkSl mt 1 (pv s).1),.val false [.i .i64 1]] [_,_] (fun b h=>h.elim) (ArgsR.cons HM7.out.reads.arg (ArgsR.cons ⟨_,rfl,rfl,inK_pos (by decide) (by decide)⟩ ArgsR.nil)) (HL.out.bel HW7.out) ⟨(pv s).1,1,by decide,hct s hs,hwf s hs,rfl⟩).mono ?_
  rintro e w8 ⟨v,bk8,rfl,hb8,hr8, -, -⟩
  obtain rfl:v=.int .i64 (1+cSl (pv s).1):=by
    rw [one_int hr8]
    exact congrArg (fun z:Nat=>Value.int .i64 (1+(z:Int))) hq
  go_wp2
  go_ret
  exact ⟨rfl,HW7.out.trans (hb8.mono HW7.out.size)⟩
end Go.Proofs.YtkpnfbdoaljkpaaGreatDoor
