/- A part. -/
import Derived.Test.YtdjfhmghebommaaGreatDoorCards
import Derived.Test.YtdjfhmghebommaaGreatDoorTie
import Derived.Test.YtdjfhmghebommaaGreatDoorDSh
import Derived.Deep.DeepWitnessRowRef
namespace Go.Proofs.YtdjfhmghebommaaGreatDoor
open Go.ChangeShapes Go.WideShapes Go.ChangeAt Go.RowKit Ab
set_option linter.all false
set_option maxRecDepth 100000
theorem ru {H:Type} {enc:TypeId × Value→H} {P:Program} {n:String} {g t e:Nat} (hl:laidOutB P=true) (hg:P.globalNamed n=some g) (ht:(P.globals[g]?).map (·.type)=some t) (hu:P.underlying t=some (.slice e)) (hr:P.readableRec t=true) (hrow:t < P.types.size)
 {W W' : World} {gs:List (DataW H)} {q:List MemPlace} (h:DataW.TrodVars enc P W (fun _=>true) [n] gs q) (hb:Below W.heap.size W W'):∃ q',DataW.TrodVars enc P W' (fun b=>decide (b < W.heap.size)) [n] gs q' := by
 obtain ⟨g',t',cs,fuel,d,p,rfl,h1,h2,h3,h4,rfl⟩:=trodVars_one h
 obtain rfl:=jbR (hg.symm.trans h1)
 obtain rfl:=jbR (ht.symm.trans h2)
 have one:∃ v,cs.toList=[v]∧v.cells.toList=[v]:=by
  rcases DataW.trod_slice hu h4 with ⟨e1,_⟩|⟨a,len,cap,_,_,_,_,e1,_⟩
  · exact ⟨_,e1,rfl⟩
  · exact ⟨_,e1,rfl⟩
 obtain ⟨v,e1,e2⟩:=one
 have hcs:cs=#[v]:=by apply jc7;simpa using e1
 subst hcs
 have lt:∀ x ∈ p,x.block < W.heap.size:=DataW.trod_lt fuel _ _ _ h4
 obtain ⟨m,hm⟩:=Below.trod hl hr hrow ⟨fuel,by rw [e2];exact h4⟩ hb lt
 rw [e2] at hm
 have hB:g < W.heap.size:=by
  unfold World.var? at h3
  rw [hg] at h3
  simp only [jdM] at h3
  cases hh:W.heap[g]? with
  | none=>rw [hh] at h3;cases h3
  | some o=>exact (jcT.1 hh).1
 have h3' : W'.var? P n=some #[v]:=by
  unfold World.var? at h3 ⊢
  rw [hg] at h3 ⊢
  simp only [jdM] at h3 ⊢
  rw [hb.block g hB]
  exact h3
 exact ⟨_,trodVars_mk1 hg ht h3' hm⟩
theorem gNames:Tryz.prog.globalNamed "loop.example/g00510/impl.errorNames" = some 1:=by kernel_rfl
theorem gNamesType:(Tryz.prog.globals[1]?).map (·.type)=some 44:=by kernel_rfl
theorem gPow:Tryz.prog.globalNamed "internal/strconv.uint64pow10" = some 7:=by kernel_rfl
theorem gPowType:(Tryz.prog.globals[7]?).map (·.type)=some 197:=by kernel_rfl
theorem iE {H:Type} {enc:TypeId × Value→H} {W W' : World} {gs:List (DataW H)} {q:List MemPlace} (h:DataW.TrodVars enc Tryz.prog W (fun _=>true) ["loop.example/g00510/impl.errorNames"] gs q) (hb:Below W.heap.size W W'):∃ q',DataW.TrodVars enc Tryz.prog W' (fun b=>decide (b < W.heap.size)) ["loop.example/g00510/impl.errorNames"] gs q' :=
 ru laidOut gNames gNamesType Tryz.underlying44 (by kernel_rfl) (jbO (by kernel_rfl)) h hb
abbrev pows:List Int:=[1,10,100,1000,10000,100000,1000000,10000000,100000000,1000000000,10000000000,100000000000,1000000000000,10000000000000,100000000000000,1000000000000000,10000000000000000,100000000000000000,1000000000000000000,10000000000000000000]
abbrev vu:List (List UInt8):=[[109,105,115,115,105,110,103],[100,117,112,108,105,99,97,116,101],[99,121,99,108,101],[116,121,112,101],[114,97,110,103,101],[108,105,109,105,116],[99,111,108,117,109,110],[115,121,110,116,97,120]]
theorem gRng:Tryz.prog.globalNamed "strconv.ErrRange" = some 4:=by kernel_rfl
theorem gRngType:(Tryz.prog.globals[4]?).map (·.type)=some 118:=by kernel_rfl
theorem gSyn:Tryz.prog.globalNamed "strconv.ErrSyntax" = some 3:=by kernel_rfl
theorem gSynType:(Tryz.prog.globals[3]?).map (·.type)=some 118:=by kernel_rfl
theorem gLen:Tryz.prog.globalNamed "encoding/hex.ErrLength" = some 2:=by kernel_rfl
theorem gLenType:(Tryz.prog.globals[2]?).map (·.type)=some 118:=by kernel_rfl
abbrev pZ:List (String × DataW Unit):=[("math/bits.deBruijn32tab",Rows.laid_math_bits_deBruijn32tab),("math/bits.deBruijn64tab",Rows.laid_math_bits_deBruijn64tab),("internal/strconv.uint64pow10",Rows.laid_internal_strconv_uint64pow10),("unicode/utf8.acceptRanges",Rows.laid_unicode_utf8_acceptRanges),("strconv.ErrRange",Rows.laid_strconv_ErrRange),("strconv.ErrSyntax",Rows.laid_strconv_ErrSyntax),("encoding/hex.ErrLength",Rows.laid_encoding_hex_ErrLength),("loop.example/g00510/impl.errorNames",Rows.laid_loop_example_g00510_impl_errorNames),("unicode/utf8.first",Rows.laid_unicode_utf8_first)]
theorem gV {W:World} {n:String} {g:Nat} {cs:Array Value} (hg:Tryz.prog.globalNamed n=some g) (hv:W.var? Tryz.prog n=some cs) (h:∃ u x,cs=#[.iface u x]):∃ u,W.cell? ⟨g,0,none⟩=some u∧ifB true u:=by
 obtain ⟨u,x,rfl⟩:=h
 exact ⟨_,by simpa using World.var?_cell hg hv 0,u,x,rfl⟩
theorem glOf {W:World} (h:laidMetH Tryz.prog pZ W) (hS:W.ShapedOpen Tryz.prog):GlR T W (fun _=>False):=by
 have h' : laidMet Tryz.prog pZ W:=h
 obtain ⟨ps,⟨g0,t0,cs0,f0,p0,q0,hg0,ht0,hv0,hd0,⟨g1,t1,cs1,f1,p1,q1,hg1,ht1,hv1,hd1,⟨g2,t2,cs2,f2,p2,q2,hg2,ht2,hv2,hd2,⟨g3,t3,cs3,f3,p3,q3,hg3,ht3,hv3,hd3,⟨g4,t4,cs4,f4,p4,q4,hg4,ht4,hv4,hd4,⟨g5,t5,cs5,f5,p5,q5,hg5,ht5,hv5,hd5,⟨g6,t6,cs6,f6,p6,q6,hg6,ht6,hv6,hd6,⟨g7,t7,cs7,f7,p7,q7,hg7,ht7,hv7,hd7,⟨g8,t8,cs8,f8,p8,q8,hg8,ht8,hv8,hd8,hq8,e8⟩,e7⟩,e6⟩,e5⟩,e4⟩,e3⟩,e2⟩,e1⟩,e0⟩,hnd,hrows⟩:=h'
 obtain rfl:=jbR (gPow.symm.trans hg2)
 obtain rfl:=jbR (gPowType.symm.trans ht2)
 obtain rfl:=jbR (gNames.symm.trans hg7)
 obtain rfl:=jbR (gNamesType.symm.trans ht7)
 obtain rfl:=jbR (gRng.symm.trans hg4)
 obtain rfl:=jbR (gRngType.symm.trans ht4)
 obtain rfl:=jbR (gSyn.symm.trans hg5)
 obtain rfl:=jbR (gSynType.symm.trans ht5)
 obtain rfl:=jbR (gLen.symm.trans hg6)
 obtain rfl:=jbR (gLenType.symm.trans ht6)
 have c2:=Lib.cells_of_tab (k:=.u64) (zs:=pows) Tryz.underlying197 Tryz.underlying172 (by kernel_rfl) (by kernel_rfl) hd2
 have v2:Lib.TabIs Tryz.prog W "internal/strconv.uint64pow10" .u64 pows:=by
  unfold Lib.TabIs
  rw [hv2]
  refine congrArg some ?_
  apply jc7
  simpa using c2
 have i4:∃ u x,cs4=#[.iface u x]:=by
  obtain ⟨l4⟩:=cs4
  obtain ⟨f1,u,v,hl,_,_⟩:=iface_of_trod Tryz.underlying118 hd4
  have hl' : l4=[.iface u v]:=hl
  exact ⟨u,v,by rw [hl']⟩
 have i5:∃ u x,cs5=#[.iface u x]:=by
  obtain ⟨l5⟩:=cs5
  obtain ⟨f1,u,v,hl,_,_⟩:=iface_of_trod Tryz.underlying118 hd5
  have hl' : l5=[.iface u v]:=hl
  exact ⟨u,v,by rw [hl']⟩
 have i6:∃ u x,cs6=#[.iface u x]:=by
  obtain ⟨l6⟩:=cs6
  obtain ⟨f1,u,v,hl,_,_⟩:=iface_of_trod Tryz.underlying118 hd6
  have hl' : l6=[.iface u v]:=hl
  exact ⟨u,v,by rw [hl']⟩
 refine GlAt.all (X:=fun _=>False) (fun p hp=>?_) (fun g hg=>?_)
 · rcases jbW.1 hp with rfl|hp
   · exact GlAt.of_texts tabT (names:=vu) gNames Tryz.underlying44 Tryz.underlying9 rfl rfl (by decide) hv7 hd7
   rcases jbW.1 hp with rfl|hp
   · exact GlAt.of_tab gPow v2 (show ∀ z ∈ pows,IntKind.min .u64≤z∧z≤IntKind.max .u64 by decide)
   cases hp
 · rcases jbW.1 hg with rfl|hg
   · obtain ⟨m,hm⟩:=Tryz.laysM145.s1_3 W hS
     exact ⟨_,hm,m,rfl⟩
   rcases jbW.1 hg with rfl|hg
   · first|exact gV gRng hv4 i4|exact gV gSyn hv5 i5|exact gV gLen hv6 i6
   rcases jbW.1 hg with rfl|hg
   · first|exact gV gRng hv4 i4|exact gV gSyn hv5 i5|exact gV gLen hv6 i6
   rcases jbW.1 hg with rfl|hg
   · first|exact gV gRng hv4 i4|exact gV gSyn hv5 i5|exact gV gLen hv6 i6
   cases hg
end Go.Proofs.YtdjfhmghebommaaGreatDoor
namespace Go.Proofs.YtdjfhmghebommaaGreatDoor
open Go.ChangeShapes Go.WideShapes Go.ChangeAt Go.RowKit
noncomputable def low:Nat:=(World.holding Tryz.prog default ⟨#[], #[],[]⟩).heap.size
def put (cs:Array Value):Obj→Obj
 | .cells _ t frozen=>.cells cs t frozen
 | o=>o
noncomputable def co (os:Os):World :=
 let w0:=World.holding Tryz.prog os ⟨#[.cells #[.string { data:=#[109,105,115,115,105,110,103] },.string { data:=#[100,117,112,108,105,99,97,116,101] },.string { data:=#[99,121,99,108,101] },.string { data:=#[116,121,112,101] },.string { data:=#[114,97,110,103,101] },.string { data:=#[108,105,109,105,116] },.string { data:=#[99,111,108,117,109,110] },.string { data:=#[115,121,110,116,97,120] }] 9,.cells #[.string { data:=#[118,97,108,117,101,32,111,117,116,32,111,102,32,114,97,110,103,101] }] 195,.cells #[.string { data:=#[105,110,118,97,108,105,100,32,115,121,110,116,97,120] }] 195,.cells #[.string { data:=#[101,110,99,111,100,105,110,103,47,104,101,120,58,32,111,100,100,32,108,101,110,103,116,104,32,104,101,120,32,115,116,114,105,110,103] }] 195], #[],[]⟩
 { w0 with heap:=(((((((((w0.heap).modify 8 (put #[.int .u8 0,.int .u8 1,.int .u8 28,.int .u8 2,.int .u8 29,.int .u8 14,.int .u8 24,.int .u8 3,.int .u8 30,.int .u8 22,.int .u8 20,.int .u8 15,.int .u8 25,.int .u8 17,.int .u8 4,.int .u8 8,.int .u8 31,.int .u8 27,.int .u8 13,.int .u8 23,.int .u8 21,.int .u8 19,.int .u8 16,.int .u8 7,.int .u8 26,.int .u8 12,.int .u8 18,.int .u8 6,.int .u8 11,.int .u8 5,.int .u8 10,.int .u8 9])).modify 9 (put #[.int .u8 0,.int .u8 1,.int .u8 56,.int .u8 2,.int .u8 57,.int .u8 49,.int .u8 28,.int .u8 3,.int .u8 61,.int .u8 58,.int .u8 42,.int .u8 50,.int .u8 38,.int .u8 29,.int .u8 17,.int .u8 4,.int .u8 62,.int .u8 47,.int .u8 59,.int .u8 36,.int .u8 45,.int .u8 43,.int .u8 51,.int .u8 22,.int .u8 53,.int .u8 39,.int .u8 33,.int .u8 30,.int .u8 24,.int .u8 18,.int .u8 12,.int .u8 5,.int .u8 63,.int .u8 55,.int .u8 48,.int .u8 27,.int .u8 60,.int .u8 41,.int .u8 37,.int .u8 16,.int .u8 46,.int .u8 35,.int .u8 44,.int .u8 21,.int .u8 52,.int .u8 32,.int .u8 23,.int .u8 11,.int .u8 54,.int .u8 26,.int .u8 40,.int .u8 15,.int .u8 34,.int .u8 20,.int .u8 31,.int .u8 10,.int .u8 25,.int .u8 14,.int .u8 19,.int .u8 9,.int .u8 13,.int .u8 8,.int .u8 7,.int .u8 6])).modify 7 (put #[.int .u64 1,.int .u64 10,.int .u64 100,.int .u64 1000,.int .u64 10000,.int .u64 100000,.int .u64 1000000,.int .u64 10000000,.int .u64 100000000,.int .u64 1000000000,.int .u64 10000000000,.int .u64 100000000000,.int .u64 1000000000000,.int .u64 10000000000000,.int .u64 100000000000000,.int .u64 1000000000000000,.int .u64 10000000000000000,.int .u64 100000000000000000,.int .u64 1000000000000000000,.int .u64 10000000000000000000])).modify 6 (put #[.int .u8 128,.int .u8 191,.int .u8 160,.int .u8 191,.int .u8 128,.int .u8 159,.int .u8 144,.int .u8 191,.int .u8 128,.int .u8 143,.int .u8 0,.int .u8 0,.int .u8 0,.int .u8 0,.int .u8 0,.int .u8 0,.int .u8 0,.int .u8 0,.int .u8 0,.int .u8 0,.int .u8 0,.int .u8 0,.int .u8 0,.int .u8 0,.int .u8 0,.int .u8 0,.int .u8 0,.int .u8 0,.int .u8 0,.int .u8 0,.int .u8 0,.int .u8 0])).modify 4 (put #[.iface 193 (.pointer (some ⟨low+1,0,none⟩))])).modify 3 (put #[.iface 193 (.pointer (some ⟨low+2,0,none⟩))])).modify 2 (put #[.iface 193 (.pointer (some ⟨low+3,0,none⟩))])).modify 5 (put ((Go.Pinned.utf8FirstZ.map fun n:Nat=>Value.int .u8 (n:Int)).toArray))).modify 1 (put #[.slice (some ⟨low,0,none⟩) 8 8]) }
end Go.Proofs.YtdjfhmghebommaaGreatDoor
