/- Functions of formats, exactly: printed by a program of this -/
import Derived.Test.YtkpnfbdoaljkpaaGreatDoorCVc
import Derived.Test.YtkpnfbdoaljkpaaGreatDoorCSh
namespace Go.Proofs.YtkpnfbdoaljkpaaGreatDoor.Ab
open Go.RowKit
set_option linter.all false
set_option maxRecDepth 100000
set_option maxHeartbeats 1000000
theorem qv {w:World} {X:Nat→Prop} (h:GlR T w X):Lib.TabIs Tryz.prog w "internal/strconv.uint64pow10" .u64 Lib.pow10Tab :=
 tC (g:=5) (by kernel_rfl) (show (5,Lib.pow10Tab.map fun z=>(CT.i .u64,D.i z)) ∈ T.gl from jbC _ (by
  have:(Lib.pow10Tab.map fun z=>(CT.i .u64,D.i z))=[(.i .u64,.i 1),(.i .u64,.i 10),(.i .u64,.i 100),(.i .u64,.i 1000),(.i .u64,.i 10000),(.i .u64,.i 100000),(.i .u64,.i 1000000),(.i .u64,.i 10000000),(.i .u64,.i 100000000),(.i .u64,.i 1000000000),(.i .u64,.i 10000000000),(.i .u64,.i 100000000000),(.i .u64,.i 1000000000000),(.i .u64,.i 10000000000000),(.i .u64,.i 100000000000000),(.i .u64,.i 1000000000000000),(.i .u64,.i 10000000000000000),(.i .u64,.i 100000000000000000),(.i .u64,.i 1000000000000000000),(.i .u64,.i 10000000000000000000)]:=by kernel_rfl
  rw [this]
  exact jbo ..)) h
theorem ok142:FOk Tryz.prog T 142 cY:=xt Tryz.call142 qv fun n h0 h1 w htab=>(Tryz.strconv_Itoa n h0 h1 w htab).mono fun e w' ⟨he,k,os,hw⟩=>⟨he,hw ▸ Lib.below_grow w.heap.size w (ja9 _) k os⟩
theorem ok163:FOk Tryz.prog T 163 dB:=xp (show T 9=some _ from rfl) rfl Tryz.call163 Tryz.strings_Join_none Tryz.strings_Join
theorem ok202:FOk Tryz.prog T 202 (wy 5):=jae (show T 5=some _ from rfl) rfl Tryz.call202 Tryz.hex_EncodeToString_bytes
theorem ok87:FOk Tryz.prog T 87 cY:=by
 refine fok (env:=envL [(142,cY)]) (N:=5) tabT (aa ok142 ae) mixed Tryz.func87 rfl Tryz.call87 Tryz.ntmps87 ?_
 rintro args ⟨x,rfl⟩ hwf
 refine ⟨by simp,?_⟩
 rw [Tryz.results87]
 repeat' first
  | (refine And.intro ?_ ?_)
  | (intro h;cases h)
  | (intro h;rw [h])
  | (intro h)
 all_goals first
  | (show ac _=true;kernel_rfl)|(show aj _ _=true;kernel_rfl)|exact True.intro|exact rfl|exact Or.inr rfl|exact Or.inl rfl
  | exact ⟨_,rfl⟩
  | rfl
theorem ok115:FOk Tryz.prog T 115 dB:=by
 refine fok (env:=envL [(163,dB)]) (N:=8) tabT (aa ok163 ae) mixed Tryz.func115 rfl Tryz.call115 Tryz.ntmps115 ?_
 rintro args ⟨rows,sep,hn,hl,rfl⟩ hwf
 refine ⟨by simp,?_⟩
 rw [Tryz.results115]
 repeat' first
  | (refine And.intro ?_ ?_)
  | (intro h;cases h)
  | (intro h;rw [h])
  | (intro h)
 all_goals first
  | (show ac _=true;kernel_rfl)|(show aj _ _=true;kernel_rfl)|exact True.intro|exact rfl|exact Or.inr rfl|exact Or.inl rfl
  | exact ⟨_,_,hn,hl,rfl⟩
  | rfl
theorem ok171:FOk Tryz.prog T 171 tH:=by
 refine fok (env:=envL [(202,(wy 5))]) (N:=8) tabT (aa ok202 ae) mixed Tryz.func171 rfl Tryz.call171 Tryz.ntmps171 ?_
 rintro args ⟨s,hs,rfl⟩ hwf
 refine ⟨by simp,?_⟩
 rw [Tryz.results171]
 repeat' first
  | (refine And.intro ?_ ?_)
  | (intro h;cases h)
  | (intro h;rw [h])
  | (intro h)
 all_goals first
  | (show ac _=true;kernel_rfl)|(show aj _ _=true;kernel_rfl)|exact True.intro|exact rfl|exact Or.inr rfl|exact Or.inl rfl
  | exact resS (sJ (lP ‹_›)).symm
  | exact ⟨s,eW ‹_›,hs,rfl⟩
  | exact resS ((by rw [fl]:_=_).trans (pg (eW ‹_›)).symm)
theorem ok89:FOk Tryz.prog T 89 cY:=by
 refine fok (env:=envL []) (N:=31) tabT ae mixed Tryz.func89 rfl Tryz.call89 Tryz.ntmps89 ?_
 rintro args ⟨x,rfl⟩ hwf
 have hx:inK .i64 x:=arg0 hwf (jbb _)
 clear hwf
 refine ⟨by simp,?_⟩
 rw [Tryz.results89]
 repeat' first
  | (refine And.intro ?_ ?_)
  | (intro h;cases h)
  | (intro h;rw [h])
  | (intro h)
 all_goals first
  | (show ac _=true;kernel_rfl)|(show aj _ _=true;kernel_rfl)|exact True.intro|exact rfl|exact Or.inr rfl|exact Or.inl rfl
  | (have h0:x=0:=by simpa using ‹(x == 0)=true›
     subst h0
     exact resS rV)
  | skip
 have h0:x ≠ 0:=by simpa using ‹(x == 0)=false›
 refine ar (Q:=_) [0,3,4] [] (fun n q=>∃ (y:Int) (o:ByteArray),q=([.val false [.i .i64 y],.val false [.b (decide (x < 0))],.val false [.s o]],[])∧FI x y o∧n=y.natAbs) ?_ ?_
 · exact ⟨rfl,_,x,_,rfl,FI.first h0,rfl⟩
 rintro n q ⟨y,o,rfl,hI,hn⟩
 have hsz:=hI.size hx
 have hmod:=pA y
 repeat' first
  | (refine And.intro ?_ ?_)
  | (intro h;cases h)
  | (intro h;rw [h])
  | (intro h)
 all_goals first
  | (show ac _=true;kernel_rfl)|(show aj _ _=true;kernel_rfl)|exact True.intro|exact rfl|exact Or.inr rfl|exact Or.inl rfl
  | exact hmod.1
  | exact hmod.2
  | exact size_le rfl hsz
  | decide
  | exact resS (hI.neg (by simpa using ‹(y != 0)=false›) (jaT ‹decide (x < 0)=true›))
  | exact resS (hI.pos (by simpa using ‹(y != 0)=false›) (ja4 ‹decide (x < 0)=false›))
  | (have hy:y ≠ 0:=by simpa using ‹(y != 0)=true›
     have hlt:(y.tdiv 10).natAbs < y.natAbs:=by rw [oE];omega
     first
      | exact ⟨(y.tdiv 10).natAbs,by omega,y.tdiv 10,_,zb (fun z s=>([.val false [.i .i64 z],.val false [.b (decide (x < 0))],.val false [.s s]],[])) _ (hI.quo hx),hI.next hy (hI.dig1 (ja4 ‹decide (y.tmod 10 < 0)=false›)),rfl⟩
      | exact ⟨(y.tdiv 10).natAbs,by omega,y.tdiv 10,_,zb (fun z s=>([.val false [.i .i64 z],.val false [.b (decide (x < 0))],.val false [.s s]],[])) _ (hI.quo hx),hI.next hy (hI.dig2 (jaT ‹decide (y.tmod 10 < 0)=true›)),rfl⟩)
theorem ok123:FOk Tryz.prog T 123 tH:=by
 refine fok (env:=envL []) (N:=34) tabT ae mixed Tryz.func123 rfl Tryz.call123 Tryz.ntmps123 ?_
 rintro args ⟨s,hs,rfl⟩ hwf
 have la:s.size≤maxLen:=arg0 hwf (jbb _)
 clear hwf
 refine ⟨by simp,?_⟩
 rw [Tryz.results123]
 repeat' first
  | (refine And.intro ?_ ?_)
  | (intro h;cases h)
  | (intro h;rw [h])
  | (intro h)
 all_goals first
  | (show ac _=true;kernel_rfl)|(show aj _ _=true;kernel_rfl)|exact True.intro|exact rfl|exact Or.inr rfl|exact Or.inl rfl
  | exact resS (sJ (lP ‹_›)).symm
  | (simp only [maxLen];omega)
  | skip
 have hne:=eW ‹_›
 refine ar (Q:=_) [0,3,4,5] [] (fun n q=>∃ i:Int,q=([.val false [.s s],.val false [.s DIG],.val false [.sl true 5 (de s i.toNat)],.val false [.i .i64 i]],[])∧0≤i∧i≤s.size∧n=s.size - i.toNat) ?_ ?_
 · exact ⟨rfl,s.size - 0,0,rfl,by omega,by omega,rfl⟩
 rintro n q ⟨i,rfl,h1,h2,h3⟩
 have hln:=j4 s i.toNat
 have hhi:=sd (s.data.getD i.toNat 0)
 have hlo:=mq (s.data.getD i.toNat 0)
 repeat' first
  | (refine And.intro ?_ ?_)
  | (intro h;cases h)
  | (intro h;rw [h])
  | (intro h)
 all_goals first
  | (show ac _=true;kernel_rfl)|(show aj _ _=true;kernel_rfl)|exact True.intro|exact rfl|exact Or.inr rfl|exact Or.inl rfl
  | omega
  | exact jaT ‹_›
  | exact hhi.1
  | exact hhi.2
  | exact hlo.1
  | exact hlo.2
  | decide
  | (have hi:¬ i < (s.size:Int):=ja4 ‹decide (i < (s.size:Int))=false›
     exact resS (nX (by omega) hne))
  | (have hi:i < (s.size:Int):=jaT ‹decide (i < (s.size:Int))=true›
     first
      | (show (de s i.toNat).length+2≤maxLen;simp only [maxLen];omega)
      | (show ((de s i.toNat).length+2) * 1≤140737488355328;omega)
      | exact ⟨s.size - (i+1).toNat,by omega,i+1,nt (fun r z=>([.val false [.s s],.val false [.s DIG],.val false [.sl true 5 r],.val false [.i .i64 z]],[])) ((mM (by omega)).trans (congrArg (de s) (by omega))) (aA h1 hi la),by omega,by omega,rfl⟩
      | (have:=rP (s.data.getD i.toNat 0);exact this.1)
      | (have:=rP (s.data.getD i.toNat 0);exact this.2))
theorem ok124:FOk Tryz.prog T 124 dB:=by
 refine fok (env:=envL []) (N:=27) tabT ae mixed Tryz.func124 rfl Tryz.call124 Tryz.ntmps124 ?_
 rintro args ⟨rows,sep,hn,hl,rfl⟩ hwf
 have wa:WfD T (.l 9) (.l rows):=arg0 hwf (jbb _)
 have la:=wa.len
 clear hwf
 have hl' : (jn rows sep rows.length).length≤140737488355328:=by
  rw [← vr] at hl
  have:(⟨(jn rows sep rows.length).toArray⟩:ByteArray).size=(jn rows sep rows.length).length:=jbr
  omega
 refine ⟨by simp,?_⟩
 rw [Tryz.results124]
 repeat' first
  | (refine And.intro ?_ ?_)
  | (intro h;cases h)
  | (intro h;rw [h])
  | (intro h)
 all_goals first
  | (show ac _=true;kernel_rfl)|(show aj _ _=true;kernel_rfl)|exact True.intro|exact rfl|exact Or.inr rfl|exact Or.inl rfl
  | (simp only [maxLen];omega)
  | skip
 refine ar (Q:=_) [0,1,5,6] [] (fun n q=>∃ i:Int,q=([argS 9 rows,.val false [.s sep],.val false [.sl true 5 (cA (jn rows sep i.toNat))],.val false [.i .i64 i]],[])∧0≤i∧i≤rows.length∧n=rows.length - i.toNat) ?_ ?_
 · exact ⟨rfl,rows.length - 0,0,rfl,by omega,by omega,rfl⟩
 rintro n q ⟨i,rfl,h1,h2,h3⟩
 repeat' first
  | (refine And.intro ?_ ?_)
  | (intro h;cases h)
  | (intro h;rw [h])
  | (intro h)
 all_goals first
  | (show ac _=true;kernel_rfl)|(show aj _ _=true;kernel_rfl)|exact True.intro|exact rfl|exact Or.inr rfl|exact Or.inl rfl
  | omega
  | exact jaT ‹_›
  | (have hi:¬ i < (rows.length:Int):=ja4 ‹decide (i < (rows.length:Int))=false›
     have e:i.toNat=rows.length:=by omega
     exact resS (by rw [iA,e];exact vr rows sep))
  | (have hi:i < (rows.length:Int):=jaT ‹decide (i < (rows.length:Int))=true›
     have hnx:=rU (rows:=rows) (sep:=sep) (k:=i.toNat) (by omega)
     have hle:=zY (rows:=rows) (sep:=sep) (j:=i.toNat+1) (k:=rows.length - (i.toNat+1)) (by omega)
     have e1:(i+1).toNat=i.toNat+1:=by omega
     first
      | (have hz:i > 0:=jaT ‹decide (i > 0)=true›
         rw [if_neg (by omega)] at hnx
         have hl3:=congrArg List.length hnx
         simp only [jaV] at hl3
         first
          | (simp only [jaV,eH,mY,maxLen] at *;omega)
          | exact ⟨rows.length - (i+1).toNat,by omega,i+1,nt (fun r z=>([argS 9 rows,.val false [.s sep],.val false [.sl true 5 r],.val false [.i .i64 z]],[])) (by rw [e1,hnx,eI,eI, ← jbz];rfl) (aA h1 hi la),by omega,by omega,rfl⟩)
      | (have hz:¬ i > 0:=ja4 ‹decide (i > 0)=false›
         rw [if_pos (by omega)] at hnx
         have h0:i.toNat=0:=by omega
         have hb0:cA (jn rows sep i.toNat)=[]:=by rw [h0];rfl
         have hl3:=congrArg List.length hnx
         first
          | (simp only [hb0,jbh,jaV,eH,mY,maxLen] at *;omega)
          | exact ⟨rows.length - (i+1).toNat,by omega,i+1,nt (fun r z=>([argS 9 rows,.val false [.s sep],.val false [.sl true 5 r],.val false [.i .i64 z]],[])) (by rw [hb0,e1,hnx];rfl) (aA h1 hi la),by omega,by omega,rfl⟩))
theorem ok146:FOk Tryz.prog T 146 uT:=by
 refine fok (env:=envL []) (N:=2) tabT ae mixed Tryz.func146 rfl Tryz.call146 Tryz.ntmps146 ?_
 rintro args rfl hwf
 refine ⟨by simp,?_⟩
 rw [Tryz.results146]
 repeat' first
  | (refine And.intro ?_ ?_)
  | (intro h;cases h)
  | (intro h;rw [h])
  | (intro h)
 all_goals first
  | (show ac _=true;kernel_rfl)|(show aj _ _=true;kernel_rfl)|exact True.intro|exact rfl|exact Or.inr rfl|exact Or.inl rfl
  | omega
  | decide
  | rfl
theorem ok152:FOk Tryz.prog T 152 qP:=by
 refine fok (env:=envL [(49,spIn),(146,uT)]) (N:=10) tabT (aa ok49 (aa ok146 ae)) mixed Tryz.func152 rfl Tryz.call152 Tryz.ntmps152 ?_
 rintro args ⟨x,h0,h1,rfl⟩ hwf
 refine ⟨by simp,?_⟩
 rw [Tryz.results152]
 repeat' first
  | (refine And.intro ?_ ?_)
  | (intro h;cases h)
  | (intro h;rw [h])
  | (intro h)
 all_goals first
  | (show ac _=true;kernel_rfl)|(show aj _ _=true;kernel_rfl)|exact True.intro|exact rfl|exact Or.inr rfl|exact Or.inl rfl
  | exact rfl
  | exact ⟨_,_,_,rfl⟩
  | (exfalso;simp_all [inR];done)
  | (exfalso;simp_all [inR];omega)
  | exact resS (xE h0 h1)
  | omega
  | (show x < 9;omega)
  | (show (x.toNat:Nat) < 9;omega)
theorem ok113:FOk Tryz.prog T 113 qP:=by
 refine fok (env:=envL [(50,spIn)]) (N:=11) tabT (aa ok50 ae) mixed Tryz.func113 rfl Tryz.call113 Tryz.ntmps113 ?_
 rintro args ⟨x,h0,h1,rfl⟩ hwf
 refine ⟨by simp,?_⟩
 rw [Tryz.results113]
 repeat' first
  | (refine And.intro ?_ ?_)
  | (intro h;cases h)
  | (intro h;rw [h])
  | (intro h)
 all_goals first
  | (show ac _=true;kernel_rfl)|(show aj _ _=true;kernel_rfl)|exact True.intro|exact rfl|exact Or.inr rfl|exact Or.inl rfl
  | exact ⟨_,_,_,rfl⟩
  | (exfalso;simp_all [inR];done)
  | (exfalso;simp_all [inR];omega)
  | exact resS (ue h0 h1)
  | (rw [IntKind.wrap_i64];omega)
  | (show IntKind.i64.wrap (x - 1) < 8;rw [IntKind.wrap_i64];omega)
  | (show (IntKind.i64.wrap (x - 1)).toNat < 8;rw [IntKind.wrap_i64];omega)
theorem okF160:FOk Tryz.prog T 160 { pre:=fun _=>False,res:=fun _=>.none }:=by
 refine fok (env:=envL []) (N:=29) tabT ae mixed Tryz.func160 rfl Tryz.call160 Tryz.ntmps160 ?_
 exact fun args h=>h.elim
theorem okF161:FOk Tryz.prog T 161 { pre:=fun _=>False,res:=fun _=>.none }:=by
 refine fok (env:=envL []) (N:=77) tabT ae mixed Tryz.func161 rfl Tryz.call161 Tryz.ntmps161 ?_
 exact fun args h=>h.elim
theorem okF112:FOk Tryz.prog T 112 { pre:=fun _=>False,res:=fun _=>.none }:=by
 refine fok (env:=envL []) (N:=185) tabT ae mixed Tryz.func112 rfl Tryz.call112 Tryz.ntmps112 ?_
 exact fun args h=>h.elim
theorem okF162:FOk Tryz.prog T 162 { pre:=fun _=>False,res:=fun _=>.none }:=by
 refine fok (env:=envL []) (N:=20) tabT ae mixed Tryz.func162 rfl Tryz.call162 Tryz.ntmps162 ?_
 exact fun args h=>h.elim
noncomputable def wE:FSpec:={ pre:=fun args=>∃ a:List D,WfRow T cV a∧(a.getD 5 default).rows.length+(a.getD 6 default).rows.length≤4611686018427387904∧((a.getD 0 default).int=1∨(a.getD 0 default).int=6)∧args=[argG cV a],res:=fun args=>.val false [.b (svOk args)] }
theorem ok112:FOk Tryz.prog T 112 wE:=by
 refine fok (env:=envL [(159,jW),(160, { pre:=fun _=>False,res:=fun _=>.none }),(50,spIn),(161, { pre:=fun _=>False,res:=fun _=>.none }),(112, { pre:=fun _=>False,res:=fun _=>.none }),(162, { pre:=fun _=>False,res:=fun _=>.none })]) (N:=185) tabT (aa ok159 (aa okF160 (aa ok50 (aa okF161 (aa okF112 (aa okF162 ae)))))) mixed Tryz.func112 rfl Tryz.call112 Tryz.ntmps112 ?_
 rintro args ⟨a,wa,hl,hk,rfl⟩ hwf
 refine ⟨by simp,?_⟩
 rw [Tryz.results112]
 clear hwf
 obtain ⟨d0,r0,rfl,w0,wa⟩:=wa.cons'
 obtain ⟨d1,r1,rfl,w1,wa⟩:=wa.cons'
 obtain ⟨d2,r2,rfl,w2,wa⟩:=wa.cons'
 obtain ⟨d3,r3,rfl,w3,wa⟩:=wa.cons'
 obtain ⟨d4,r4,rfl,w4,wa⟩:=wa.cons'
 obtain ⟨d5,r5,rfl,w5,wa⟩:=wa.cons'
 obtain ⟨d6,r6,rfl,w6,wa⟩:=wa.cons'
 obtain rfl:=wa.nil'
 obtain ⟨n0,rfl,_⟩:=w0.int'
 obtain ⟨n1,rfl,_⟩:=w1.int'
 obtain ⟨n2,rfl,_⟩:=w2.int'
 obtain ⟨s3,rfl,_⟩:=w3.str'
 obtain ⟨l4,rfl,_⟩:=w4.sl'
 obtain ⟨l5,rfl,_⟩:=w5.sl'
 obtain ⟨l6,rfl,_⟩:=w6.sl'
 clear w0 w1 w2 w3 w4 w5 w6
 have hl:l5.length+l6.length≤4611686018427387904:=hl
 have hk:n0=1∨n0=6:=hk
 rcases hk with rfl|rfl
 all_goals
  repeat' first
   | (refine And.intro ?_ ?_)
   | (intro h;cases h)
   | (intro h;rw [h])
   | (intro h)
 all_goals first
  | (show ac _=true;kernel_rfl)|(show aj _ _=true;kernel_rfl)|exact True.intro|exact rfl|exact Or.inr rfl|exact Or.inl rfl
  | exact ⟨_,rfl⟩
  | exact ⟨_,_,_,rfl⟩
  | (refine resB ?_;show _=okVal [_,_,_,_,_,_,_];simp_all [okVal,inR,CV.d,ofD,IntKind.wrap_i64,jcD,jcC,D.int,D.rows,D.str];done)
  | (refine resB ?_;show _=okVal [_,_,_,_,_,_,_];simp_all [okVal,inR,CV.d,ofD,IntKind.wrap_i64,jcD,jcC,D.int,D.rows,D.str];simp only [← jbq] at *;intros;omega)
theorem okF151:FOk Tryz.prog T 151 { pre:=fun _=>False,res:=fun _=>.none }:=by
 refine fok (env:=envL []) (N:=48) tabT ae mixed Tryz.func151 rfl Tryz.call151 Tryz.ntmps151 ?_
 exact fun args h=>h.elim
theorem okF105:FOk Tryz.prog T 105 { pre:=fun _=>False,res:=fun _=>.none }:=by
 refine fok (env:=envL []) (N:=69) tabT ae mixed Tryz.func105 rfl Tryz.call105 Tryz.ntmps105 ?_
 exact fun args h=>h.elim
theorem ok105:FOk Tryz.prog T 105 (kc T cV):=by
 refine fok (env:=envL [(89,cY),(124,dB),(151, { pre:=fun _=>False,res:=fun _=>.none }),(152,qP),(105, { pre:=fun _=>False,res:=fun _=>.none })]) (N:=69) tabT (aa ok89 (aa ok124 (aa okF151 (aa ok152 (aa okF105 ae))))) mixed Tryz.func105 rfl Tryz.call105 Tryz.ntmps105 ?_
 rintro args ⟨a,wa,hg,rfl⟩ hwf
 refine ⟨by simp,?_⟩
 rw [Tryz.results105]
 clear hwf
 have hgk:=hg.2.1
 obtain ⟨d0,r0,rfl,w0,wa⟩:=wa.cons'
 obtain ⟨d1,r1,rfl,w1,wa⟩:=wa.cons'
 obtain ⟨d2,r2,rfl,w2,wa⟩:=wa.cons'
 obtain ⟨d3,r3,rfl,w3,wa⟩:=wa.cons'
 obtain ⟨d4,r4,rfl,w4,wa⟩:=wa.cons'
 obtain ⟨d5,r5,rfl,w5,wa⟩:=wa.cons'
 obtain ⟨d6,r6,rfl,w6,wa⟩:=wa.cons'
 obtain rfl:=wa.nil'
 obtain ⟨n0,rfl,_⟩:=w0.int'
 obtain ⟨n1,rfl,_⟩:=w1.int'
 obtain ⟨n2,rfl,_⟩:=w2.int'
 obtain ⟨s3,rfl,_⟩:=w3.str'
 obtain ⟨l4,rfl,_⟩:=w4.sl'
 obtain ⟨l5,rfl,_⟩:=w5.sl'
 obtain ⟨l6,rfl,_⟩:=w6.sl'
 clear w0 w1 w2 w3 w4 w5 w6
 have hk:n0=1∨n0=6:=hgk
 rcases hk with rfl|rfl
 · repeat' first
    | (refine And.intro ?_ ?_)
    | (intro h;cases h)
    | (intro h;rw [h])
    | (intro h)
   all_goals first
    | (show ac _=true;kernel_rfl)|(show aj _ _=true;kernel_rfl)|exact True.intro|exact rfl|exact Or.inr rfl|exact Or.inl rfl
    | exact ⟨_,rfl⟩
    | exact resS (lu (a:=[.i 1,.i n1,.i n2,.s s3,.l l4,.l l5,.l l6]) rfl).symm
 · obtain ⟨e0,e1⟩:=hg.err rfl
   have hz:=eA n1
   repeat' first
    | (refine And.intro ?_ ?_)
    | (intro h;cases h)
    | (intro h;rw [h])
    | (intro h)
   all_goals first
    | (show ac _=true;kernel_rfl)|(show aj _ _=true;kernel_rfl)|exact True.intro|exact rfl|exact Or.inr rfl|exact Or.inl rfl
    | exact ⟨_,e0,e1,rfl⟩
    | exact resS (lv (a:=[.i 6,.i n1,.i n2,.s s3,.l l4,.l l5,.l l6]) rfl).symm
    | (show 6+(errB n1).size≤maxLen;simp only [maxLen];omega)
theorem ok52:FOk Tryz.prog T 52 (kc T cV):=by
 refine fok (env:=envL [(104,wF),(105,(kc T cV))]) (N:=8) tabT (aa ok104 (aa ok105 ae)) mixed Tryz.func52 rfl Tryz.call52 Tryz.ntmps52 ?_
 rintro args ⟨a,wa,hg,rfl⟩ hwf
 have hv:g104 [argG cV a]=true:=(qq _ ⟨a,wa,hg.1,hg.2.1,rfl⟩).trans ((congrArg okVal (aC wa)).trans hg.2.2)
 refine ⟨by simp,?_⟩
 rw [Tryz.results52]
 clear hwf
 repeat' first
  | (refine And.intro ?_ ?_)
  | (intro h;cases h)
  | (intro h;rw [h])
  | (intro h)
 all_goals first
  | (show ac _=true;kernel_rfl)|(show aj _ _=true;kernel_rfl)|exact True.intro|exact rfl|exact Or.inr rfl|exact Or.inl rfl
  | exact ⟨_,wa,rfl⟩
  | exact ⟨_,wa,hg,rfl⟩
  | rfl
  | exact absurd (show (!(g104 [argG cV a]))=true from ‹_›) (by rw [hv];decide)
theorem okF54:FOk Tryz.prog T 54 { pre:=fun _=>False,res:=fun _=>.none }:=by
 refine fok (env:=envL []) (N:=100) tabT ae mixed Tryz.func54 rfl Tryz.call54 Tryz.ntmps54 ?_
 exact fun args h=>h.elim
theorem okF114:FOk Tryz.prog T 114 { pre:=fun _=>False,res:=fun _=>.none }:=by
 refine fok (env:=envL []) (N:=7) tabT ae mixed Tryz.func114 rfl Tryz.call114 Tryz.ntmps114 ?_
 exact fun args h=>h.elim
theorem ok54:FOk Tryz.prog T 54 (kc T cV):=by
 refine fok (env:=envL [(112,wE),(87,cY),(113,qP),(54, { pre:=fun _=>False,res:=fun _=>.none }),(114, { pre:=fun _=>False,res:=fun _=>.none }),(115,dB)]) (N:=100) tabT (aa ok112 (aa ok87 (aa ok113 (aa okF54 (aa okF114 (aa ok115 ae)))))) mixed Tryz.func54 rfl Tryz.call54 Tryz.ntmps54 ?_
 rintro args ⟨a,wa,hg,rfl⟩ hwf
 refine ⟨by simp,?_⟩
 rw [Tryz.results54]
 clear hwf
 have hgk:=hg.2.1
 have wr:=wa
 obtain ⟨d0,r0,rfl,w0,wa⟩:=wa.cons'
 obtain ⟨d1,r1,rfl,w1,wa⟩:=wa.cons'
 obtain ⟨d2,r2,rfl,w2,wa⟩:=wa.cons'
 obtain ⟨d3,r3,rfl,w3,wa⟩:=wa.cons'
 obtain ⟨d4,r4,rfl,w4,wa⟩:=wa.cons'
 obtain ⟨d5,r5,rfl,w5,wa⟩:=wa.cons'
 obtain ⟨d6,r6,rfl,w6,wa⟩:=wa.cons'
 obtain rfl:=wa.nil'
 obtain ⟨n0,rfl,_⟩:=w0.int'
 obtain ⟨n1,rfl,_⟩:=w1.int'
 obtain ⟨n2,rfl,_⟩:=w2.int'
 obtain ⟨s3,rfl,_⟩:=w3.str'
 obtain ⟨l4,rfl,_⟩:=w4.sl'
 obtain ⟨l5,rfl,_⟩:=w5.sl'
 obtain ⟨l6,rfl,_⟩:=w6.sl'
 clear w0 w1 w2 w3 w4 w5 w6
 have hv:svOk [argG cV [.i n0,.i n1,.i n2,.s s3,.l l4,.l l5,.l l6]]=true:=(congrArg okVal (aC wr)).trans hg.2.2
 have hk:n0=1∨n0=6:=hgk
 rcases hk with rfl|rfl
 · repeat' first
    | (refine And.intro ?_ ?_)
    | (intro h;cases h)
    | (intro h;rw [h])
    | (intro h)
   all_goals first
    | (show ac _=true;kernel_rfl)|(show aj _ _=true;kernel_rfl)|exact True.intro|exact rfl|exact Or.inr rfl|exact Or.inl rfl
    | exact ⟨_,wr,hg.1,hg.2.1,rfl⟩
    | exact ⟨_,rfl⟩
    | exact resS (lu (a:=[.i 1,.i n1,.i n2,.s s3,.l l4,.l l5,.l l6]) rfl).symm
    | exact absurd (show (!(svOk [argG cV [.i 1,.i n1,.i n2,.s s3,.l l4,.l l5,.l l6]]))=true from ‹_›) (by rw [hv];decide)
 · obtain ⟨e0,e1⟩:=hg.err rfl
   have hz:=eA n1
   repeat' first
    | (refine And.intro ?_ ?_)
    | (intro h;cases h)
    | (intro h;rw [h])
    | (intro h)
   all_goals first
    | (show ac _=true;kernel_rfl)|(show aj _ _=true;kernel_rfl)|exact True.intro|exact rfl|exact Or.inr rfl|exact Or.inl rfl
    | exact ⟨_,wr,hg.1,hg.2.1,rfl⟩
    | exact ⟨_,e0,e1,rfl⟩
    | exact resS (lv (a:=[.i 6,.i n1,.i n2,.s s3,.l l4,.l l5,.l l6]) rfl).symm
    | (show 6+(errB n1).size≤maxLen;simp only [maxLen];omega)
    | exact absurd (show (!(svOk [argG cV [.i 6,.i n1,.i n2,.s s3,.l l4,.l l5,.l l6]]))=true from ‹_›) (by rw [hv];decide)
end Go.Proofs.YtkpnfbdoaljkpaaGreatDoor.Ab
