/- A part. -/
import Derived.Test.YtdjfhmghebommaaGreatDoorDVc
import Derived.Test.YtdjfhmghebommaaGreatDoorDSh
namespace Go.Proofs.YtdjfhmghebommaaGreatDoor.Ab
open Go.RowKit
set_option linter.all false
set_option maxRecDepth 100000
set_option maxHeartbeats 1000000
theorem rH {w:World} {X:Nat→Prop} (h:GlR T w X):Lib.TabIs Tryz.prog w "internal/strconv.uint64pow10" .u64 Lib.pow10Tab :=
 uM (g:=7) (by kernel_rfl) (show (7,Lib.pow10Tab.map fun z=>(CT.i .u64,D.i z)) ∈ T.gl from jcx _ (by
  have:(Lib.pow10Tab.map fun z=>(CT.i .u64,D.i z))=[(.i .u64,.i 1),(.i .u64,.i 10),(.i .u64,.i 100),(.i .u64,.i 1000),(.i .u64,.i 10000),(.i .u64,.i 100000),(.i .u64,.i 1000000),(.i .u64,.i 10000000),(.i .u64,.i 100000000),(.i .u64,.i 1000000000),(.i .u64,.i 10000000000),(.i .u64,.i 100000000000),(.i .u64,.i 1000000000000),(.i .u64,.i 10000000000000),(.i .u64,.i 100000000000000),(.i .u64,.i 1000000000000000),(.i .u64,.i 10000000000000000),(.i .u64,.i 100000000000000000),(.i .u64,.i 1000000000000000000),(.i .u64,.i 10000000000000000000)]:=by kernel_rfl
  rw [this]
  exact jcj ..)) h
theorem ok92:FOk Tryz.prog T 92 c7:=yu Tryz.call92 rH fun n h0 h1 w htab=>(Tryz.strconv_Itoa n h0 h1 w htab).mono fun e w' ⟨he,k,os,hw⟩=>⟨he,hw ▸ Lib.below_grow w.heap.size w (jb4 _) k os⟩
theorem ok108:FOk Tryz.prog T 108 spJoin:=yr (show T 9=some _ from rfl) rfl Tryz.call108 Tryz.strings_Join_none Tryz.strings_Join
theorem ok131:FOk Tryz.prog T 131 (xM 5):=jbd (show T 5=some _ from rfl) rfl Tryz.call131 Tryz.hex_EncodeToString_bytes
theorem ok72:FOk Tryz.prog T 72 c7:=by
 refine fok (env:=envL [(92,c7)]) (N:=5) tabT (ac ok92 af) mixed Tryz.func72 rfl Tryz.call72 Tryz.ntmps72 ?_
 rintro args ⟨x,rfl⟩ hwf
 refine ⟨by simp,?_⟩
 rw [Tryz.results72]
 repeat' first
  | refine And.intro ?_ ?_
  | (intro h;cases h)
  | (intro h;rw [h])
  | intro h
 all_goals first
  | (show aa _=true;kernel_rfl)|(show am _ _=true;kernel_rfl)|exact True.intro|exact rfl|exact Or.inr rfl|exact Or.inl rfl
  | exact ⟨_,rfl⟩
  | rfl
theorem ok60:FOk Tryz.prog T 60 spJoin:=by
 refine fok (env:=envL [(108,spJoin)]) (N:=8) tabT (ac ok108 af) mixed Tryz.func60 rfl Tryz.call60 Tryz.ntmps60 ?_
 rintro args ⟨rows,sep,hn,hl,rfl⟩ hwf
 refine ⟨by simp,?_⟩
 rw [Tryz.results60]
 repeat' first
  | refine And.intro ?_ ?_
  | (intro h;cases h)
  | (intro h;rw [h])
  | intro h
 all_goals first
  | (show aa _=true;kernel_rfl)|(show am _ _=true;kernel_rfl)|exact True.intro|exact rfl|exact Or.inr rfl|exact Or.inl rfl
  | exact ⟨_,_,hn,hl,rfl⟩
  | rfl
theorem ok94:FOk Tryz.prog T 94 uS:=by
 refine fok (env:=envL [(131,(xM 5))]) (N:=8) tabT (ac ok131 af) mixed Tryz.func94 rfl Tryz.call94 Tryz.ntmps94 ?_
 rintro args ⟨s,hs,rfl⟩ hwf
 refine ⟨by simp,?_⟩
 rw [Tryz.results94]
 repeat' first
  | refine And.intro ?_ ?_
  | (intro h;cases h)
  | (intro h;rw [h])
  | intro h
 all_goals first
  | (show aa _=true;kernel_rfl)|(show am _ _=true;kernel_rfl)|exact True.intro|exact rfl|exact Or.inr rfl|exact Or.inl rfl
  | exact resS (tZ (pB ‹_›)).symm
  | exact ⟨s,gt ‹_›,hs,rfl⟩
  | exact resS ((by rw [fI]:_=_).trans (qh (gt ‹_›)).symm)
theorem ok47:FOk Tryz.prog T 47 c7:=by
 refine fok (env:=envL []) (N:=31) tabT af mixed Tryz.func47 rfl Tryz.call47 Tryz.ntmps47 ?_
 rintro args ⟨x,rfl⟩ hwf
 have hx:inK .i64 x:=arg0 hwf (jb6 _)
 clear hwf
 refine ⟨by simp,?_⟩
 rw [Tryz.results47]
 repeat' first
  | refine And.intro ?_ ?_
  | (intro h;cases h)
  | (intro h;rw [h])
  | intro h
 all_goals first
  | (show aa _=true;kernel_rfl)|(show am _ _=true;kernel_rfl)|exact True.intro|exact rfl|exact Or.inr rfl|exact Or.inl rfl
  | (have h0:x=0:=by simpa using ‹(x == 0)=true›
     subst h0
     exact resS tz)
  | skip
 have h0:x ≠ 0:=by simpa using ‹(x == 0)=false›
 refine ap (Q:=_) [0,3,4] [] (fun n q=>∃ (y:Int) (o:ByteArray),q=([.val false [.i .i64 y],.val false [.b (decide (x < 0))],.val false [.s o]],[])∧FI x y o∧n=y.natAbs) ?_ ?_
 · exact ⟨rfl,_,x,_,rfl,FI.first h0,rfl⟩
 rintro n q ⟨y,o,rfl,hI,hn⟩
 have hsz:=hI.size hx
 have hmod:=qz y
 repeat' first
  | refine And.intro ?_ ?_
  | (intro h;cases h)
  | (intro h;rw [h])
  | intro h
 all_goals first
  | (show aa _=true;kernel_rfl)|(show am _ _=true;kernel_rfl)|exact True.intro|exact rfl|exact Or.inr rfl|exact Or.inl rfl
  | exact hmod.1
  | exact hmod.2
  | exact size_le rfl hsz
  | decide
  | exact resS (hI.neg (by simpa using ‹(y != 0)=false›) (jbO ‹decide (x < 0)=true›))
  | exact resS (hI.pos (by simpa using ‹(y != 0)=false›) (jbZ ‹decide (x < 0)=false›))
  | (have hy:y ≠ 0:=by simpa using ‹(y != 0)=true›
     have hlt:(y.tdiv 10).natAbs < y.natAbs:=by rw [pA];omega
     first
      | exact ⟨(y.tdiv 10).natAbs,by omega,y.tdiv 10,_,jad (fun z s=>([.val false [.i .i64 z],.val false [.b (decide (x < 0))],.val false [.s s]],[])) _ (hI.quo hx),hI.next hy (hI.dig1 (jbZ ‹decide (y.tmod 10 < 0)=false›)),rfl⟩
      | exact ⟨(y.tdiv 10).natAbs,by omega,y.tdiv 10,_,jad (fun z s=>([.val false [.i .i64 z],.val false [.b (decide (x < 0))],.val false [.s s]],[])) _ (hI.quo hx),hI.next hy (hI.dig2 (jbO ‹decide (y.tmod 10 < 0)=true›)),rfl⟩)
theorem ok48:FOk Tryz.prog T 48 uS:=by
 refine fok (env:=envL []) (N:=34) tabT af mixed Tryz.func48 rfl Tryz.call48 Tryz.ntmps48 ?_
 rintro args ⟨s,hs,rfl⟩ hwf
 have la:s.size≤maxLen:=arg0 hwf (jb6 _)
 clear hwf
 refine ⟨by simp,?_⟩
 rw [Tryz.results48]
 repeat' first
  | refine And.intro ?_ ?_
  | (intro h;cases h)
  | (intro h;rw [h])
  | intro h
 all_goals first
  | (show aa _=true;kernel_rfl)|(show am _ _=true;kernel_rfl)|exact True.intro|exact rfl|exact Or.inr rfl|exact Or.inl rfl
  | exact resS (tZ (pB ‹_›)).symm
  | (simp only [maxLen];omega)
  | skip
 have hne:=gt ‹_›
 refine ap (Q:=_) [0,3,4,5] [] (fun n q=>∃ i:Int,q=([.val false [.s s],.val false [.s DIG],.val false [.sl true 5 (dk s i.toNat)],.val false [.i .i64 i]],[])∧0≤i∧i≤s.size∧n=s.size - i.toNat) ?_ ?_
 · exact ⟨rfl,s.size - 0,0,rfl,by omega,by omega,rfl⟩
 rintro n q ⟨i,rfl,h1,h2,h3⟩
 have hln:=kT s i.toNat
 have hhi:=tI (s.data.getD i.toNat 0)
 have hlo:=nh (s.data.getD i.toNat 0)
 repeat' first
  | refine And.intro ?_ ?_
  | (intro h;cases h)
  | (intro h;rw [h])
  | intro h
 all_goals first
  | (show aa _=true;kernel_rfl)|(show am _ _=true;kernel_rfl)|exact True.intro|exact rfl|exact Or.inr rfl|exact Or.inl rfl
  | omega
  | exact jbO ‹_›
  | exact hhi.1
  | exact hhi.2
  | exact hlo.1
  | exact hlo.2
  | decide
  | (have hi:¬ i < (s.size:Int):=jbZ ‹decide (i < (s.size:Int))=false›
     exact resS (oZ (by omega) hne))
  | (have hi:i < (s.size:Int):=jbO ‹decide (i < (s.size:Int))=true›
     first
      | (show (dk s i.toNat).length+2≤maxLen;simp only [maxLen];omega)
      | (show ((dk s i.toNat).length+2) * 1≤140737488355328;omega)
      | exact ⟨s.size - (i+1).toNat,by omega,i+1,ov (fun r z=>([.val false [.s s],.val false [.s DIG],.val false [.sl true 5 r],.val false [.i .i64 z]],[])) ((nG (by omega)).trans (congrArg (dk s) (by omega))) (aC h1 hi la),by omega,by omega,rfl⟩
      | (have:=tq (s.data.getD i.toNat 0);exact this.1)
      | (have:=tq (s.data.getD i.toNat 0);exact this.2))
theorem ok49:FOk Tryz.prog T 49 spJoin:=by
 refine fok (env:=envL []) (N:=27) tabT af mixed Tryz.func49 rfl Tryz.call49 Tryz.ntmps49 ?_
 rintro args ⟨rows,sep,hn,hl,rfl⟩ hwf
 have wa:WfD T (.l 9) (.l rows):=arg0 hwf (jb6 _)
 have la:=wa.len
 clear hwf
 have hl' : (jn rows sep rows.length).length≤140737488355328:=by
  rw [← wM] at hl
  have:(⟨(jn rows sep rows.length).toArray⟩:ByteArray).size=(jn rows sep rows.length).length:=jcm
  omega
 refine ⟨by simp,?_⟩
 rw [Tryz.results49]
 repeat' first
  | refine And.intro ?_ ?_
  | (intro h;cases h)
  | (intro h;rw [h])
  | intro h
 all_goals first
  | (show aa _=true;kernel_rfl)|(show am _ _=true;kernel_rfl)|exact True.intro|exact rfl|exact Or.inr rfl|exact Or.inl rfl
  | (simp only [maxLen];omega)
  | skip
 refine ap (Q:=_) [0,1,5,6] [] (fun n q=>∃ i:Int,q=([argS 9 rows,.val false [.s sep],.val false [.sl true 5 (cF (jn rows sep i.toNat))],.val false [.i .i64 i]],[])∧0≤i∧i≤rows.length∧n=rows.length - i.toNat) ?_ ?_
 · exact ⟨rfl,rows.length - 0,0,rfl,by omega,by omega,rfl⟩
 rintro n q ⟨i,rfl,h1,h2,h3⟩
 repeat' first
  | refine And.intro ?_ ?_
  | (intro h;cases h)
  | (intro h;rw [h])
  | intro h
 all_goals first
  | (show aa _=true;kernel_rfl)|(show am _ _=true;kernel_rfl)|exact True.intro|exact rfl|exact Or.inr rfl|exact Or.inl rfl
  | omega
  | exact jbO ‹_›
  | (have hi:¬ i < (rows.length:Int):=jbZ ‹decide (i < (rows.length:Int))=false›
     have e:i.toNat=rows.length:=by omega
     exact resS (by rw [jg,e];exact wM rows sep))
  | (have hi:i < (rows.length:Int):=jbO ‹decide (i < (rows.length:Int))=true›
     have hnx:=tw (rows:=rows) (sep:=sep) (k:=i.toNat) (by omega)
     have hle:=ja5 (rows:=rows) (sep:=sep) (j:=i.toNat+1) (k:=rows.length - (i.toNat+1)) (by omega)
     have e1:(i+1).toNat=i.toNat+1:=by omega
     first
      | (have hz:i > 0:=jbO ‹decide (i > 0)=true›
         rw [if_neg (by omega)] at hnx
         have hl3:=congrArg List.length hnx
         simp only [jbQ] at hl3
         first
          | (simp only [jbQ,fh,nS,maxLen] at *;omega)
          | exact ⟨rows.length - (i+1).toNat,by omega,i+1,ov (fun r z=>([argS 9 rows,.val false [.s sep],.val false [.sl true 5 r],.val false [.i .i64 z]],[])) (by rw [e1,hnx,fi,fi, ← jcu];rfl) (aC h1 hi la),by omega,by omega,rfl⟩)
      | (have hz:¬ i > 0:=jbZ ‹decide (i > 0)=false›
         rw [if_pos (by omega)] at hnx
         have h0:i.toNat=0:=by omega
         have hb0:cF (jn rows sep i.toNat)=[]:=by rw [h0];rfl
         have hl3:=congrArg List.length hnx
         first
          | (simp only [hb0,jcc,jbQ,fh,nS,maxLen] at *;omega)
          | exact ⟨rows.length - (i+1).toNat,by omega,i+1,ov (fun r z=>([argS 9 rows,.val false [.s sep],.val false [.sl true 5 r],.val false [.i .i64 z]],[])) (by rw [hb0,e1,hnx];rfl) (aC h1 hi la),by omega,by omega,rfl⟩))
theorem ok116:FOk Tryz.prog T 116 se:=by
 refine fok (env:=envL []) (N:=2) tabT af mixed Tryz.func116 rfl Tryz.call116 Tryz.ntmps116 ?_
 rintro args rfl hwf
 refine ⟨by simp,?_⟩
 rw [Tryz.results116]
 repeat' first
  | refine And.intro ?_ ?_
  | (intro h;cases h)
  | (intro h;rw [h])
  | intro h
 all_goals first
  | (show aa _=true;kernel_rfl)|(show am _ _=true;kernel_rfl)|exact True.intro|exact rfl|exact Or.inr rfl|exact Or.inl rfl
  | omega
  | decide
  | rfl
theorem ok121:FOk Tryz.prog T 121 qC:=by
 refine fok (env:=envL [(35,spIn),(116,se)]) (N:=10) tabT (ac ok35 (ac ok116 af)) mixed Tryz.func121 rfl Tryz.call121 Tryz.ntmps121 ?_
 rintro args ⟨x,h0,h1,rfl⟩ hwf
 refine ⟨by simp,?_⟩
 rw [Tryz.results121]
 repeat' first
  | refine And.intro ?_ ?_
  | (intro h;cases h)
  | (intro h;rw [h])
  | intro h
 all_goals first
  | (show aa _=true;kernel_rfl)|(show am _ _=true;kernel_rfl)|exact True.intro|exact rfl|exact Or.inr rfl|exact Or.inl rfl
  | exact rfl
  | exact ⟨_,_,_,rfl⟩
  | (exfalso;simp_all [inR];done)
  | (exfalso;simp_all [inR];omega)
  | exact resS (yG h0 h1)
  | omega
  | (show x < 9;omega)
  | (show (x.toNat:Nat) < 9;omega)
theorem ok101:FOk Tryz.prog T 101 qC:=by
 refine fok (env:=envL [(103,spIn)]) (N:=11) tabT (ac ok103 af) mixed Tryz.func101 rfl Tryz.call101 Tryz.ntmps101 ?_
 rintro args ⟨x,h0,h1,rfl⟩ hwf
 refine ⟨by simp,?_⟩
 rw [Tryz.results101]
 repeat' first
  | refine And.intro ?_ ?_
  | (intro h;cases h)
  | (intro h;rw [h])
  | intro h
 all_goals first
  | (show aa _=true;kernel_rfl)|(show am _ _=true;kernel_rfl)|exact True.intro|exact rfl|exact Or.inr rfl|exact Or.inl rfl
  | exact ⟨_,_,_,rfl⟩
  | (exfalso;simp_all [inR];done)
  | (exfalso;simp_all [inR];omega)
  | exact resS (vt h0 h1)
  | (rw [IntKind.wrap_i64];omega)
  | (show IntKind.i64.wrap (x - 1) < 8;rw [IntKind.wrap_i64];omega)
  | (show (IntKind.i64.wrap (x - 1)).toNat < 8;rw [IntKind.wrap_i64];omega)
theorem okF105:FOk Tryz.prog T 105 { pre:=fun _=>False,res:=fun _=>.none }:=by
 refine fok (env:=envL []) (N:=29) tabT af mixed Tryz.func105 rfl Tryz.call105 Tryz.ntmps105 ?_
 exact fun args h=>h.elim
theorem okF106:FOk Tryz.prog T 106 { pre:=fun _=>False,res:=fun _=>.none }:=by
 refine fok (env:=envL []) (N:=77) tabT af mixed Tryz.func106 rfl Tryz.call106 Tryz.ntmps106 ?_
 exact fun args h=>h.elim
theorem okF59:FOk Tryz.prog T 59 { pre:=fun _=>False,res:=fun _=>.none }:=by
 refine fok (env:=envL []) (N:=185) tabT af mixed Tryz.func59 rfl Tryz.call59 Tryz.ntmps59 ?_
 exact fun args h=>h.elim
theorem okF107:FOk Tryz.prog T 107 { pre:=fun _=>False,res:=fun _=>.none }:=by
 refine fok (env:=envL []) (N:=20) tabT af mixed Tryz.func107 rfl Tryz.call107 Tryz.ntmps107 ?_
 exact fun args h=>h.elim
noncomputable def sp59:FSpec:={ pre:=fun args=>∃ a:List D,WfRow T cV a∧(a.getD 5 default).rows.length+(a.getD 6 default).rows.length≤4611686018427387904∧((a.getD 0 default).int=1∨(a.getD 0 default).int=6)∧args=[argG cV a],res:=fun args=>.val false [.b (svOk args)] }
theorem ok59:FOk Tryz.prog T 59 sp59:=by
 refine fok (env:=envL [(104,jb),(105, { pre:=fun _=>False,res:=fun _=>.none }),(103,spIn),(106, { pre:=fun _=>False,res:=fun _=>.none }),(59, { pre:=fun _=>False,res:=fun _=>.none }),(107, { pre:=fun _=>False,res:=fun _=>.none })]) (N:=185) tabT (ac ok104 (ac okF105 (ac ok103 (ac okF106 (ac okF59 (ac okF107 af)))))) mixed Tryz.func59 rfl Tryz.call59 Tryz.ntmps59 ?_
 rintro args ⟨a,wa,hl,hk,rfl⟩ hwf
 refine ⟨by simp,?_⟩
 rw [Tryz.results59]
 clear hwf
 obtain ⟨d0,r0,rfl,w0,wa⟩:=wa.cons'
 obtain ⟨d1,r1,rfl,w1,wa⟩:=wa.cons'
 obtain ⟨d2,r2,rfl,w2,wa⟩:=wa.cons'
 obtain ⟨d3,r3,rfl,w3,wa⟩:=wa.cons'
 obtain ⟨d4,r4,rfl,w4,wa⟩:=wa.cons'
 obtain ⟨d5,r5,rfl,w5,wa⟩:=wa.cons'
 obtain ⟨d6,r6,rfl,w6,wa⟩:=wa.cons'
 obtain rfl:=wa.nil'
 obtain ⟨n0,rfl,_⟩:=w0.int'
 obtain ⟨n1,rfl,_⟩:=w1.int'
 obtain ⟨n2,rfl,_⟩:=w2.int'
 obtain ⟨s3,rfl,_⟩:=w3.str'
 obtain ⟨l4,rfl,_⟩:=w4.sl'
 obtain ⟨l5,rfl,_⟩:=w5.sl'
 obtain ⟨l6,rfl,_⟩:=w6.sl'
 clear w0 w1 w2 w3 w4 w5 w6
 have hl:l5.length+l6.length≤4611686018427387904:=hl
 have hk:n0=1∨n0=6:=hk
 rcases hk with rfl|rfl
 all_goals
  repeat' first
   | refine And.intro ?_ ?_
   | (intro h;cases h)
   | (intro h;rw [h])
   | intro h
 all_goals first
  | (show aa _=true;kernel_rfl)|(show am _ _=true;kernel_rfl)|exact True.intro|exact rfl|exact Or.inr rfl|exact Or.inl rfl
  | exact ⟨_,rfl⟩
  | exact ⟨_,_,_,rfl⟩
  | (refine resB ?_;show _=okVal [_,_,_,_,_,_,_];simp_all [okVal,inR,CV.d,ofD,IntKind.wrap_i64,jdy,jdx,D.int,D.rows,D.str];done)
  | (refine resB ?_;show _=okVal [_,_,_,_,_,_,_];simp_all [okVal,inR,CV.d,ofD,IntKind.wrap_i64,jdy,jdx,D.int,D.rows,D.str];simp only [← jcl] at *;intros;omega)
theorem okF120:FOk Tryz.prog T 120 { pre:=fun _=>False,res:=fun _=>.none }:=by
 refine fok (env:=envL []) (N:=48) tabT af mixed Tryz.func120 rfl Tryz.call120 Tryz.ntmps120 ?_
 exact fun args h=>h.elim
theorem okF87:FOk Tryz.prog T 87 { pre:=fun _=>False,res:=fun _=>.none }:=by
 refine fok (env:=envL []) (N:=69) tabT af mixed Tryz.func87 rfl Tryz.call87 Tryz.ntmps87 ?_
 exact fun args h=>h.elim
theorem ok87:FOk Tryz.prog T 87 (lf T cV):=by
 refine fok (env:=envL [(47,c7),(49,spJoin),(120, { pre:=fun _=>False,res:=fun _=>.none }),(121,qC),(87, { pre:=fun _=>False,res:=fun _=>.none })]) (N:=69) tabT (ac ok47 (ac ok49 (ac okF120 (ac ok121 (ac okF87 af))))) mixed Tryz.func87 rfl Tryz.call87 Tryz.ntmps87 ?_
 rintro args ⟨a,wa,hg,rfl⟩ hwf
 refine ⟨by simp,?_⟩
 rw [Tryz.results87]
 clear hwf
 have hgk:=hg.2.1
 obtain ⟨d0,r0,rfl,w0,wa⟩:=wa.cons'
 obtain ⟨d1,r1,rfl,w1,wa⟩:=wa.cons'
 obtain ⟨d2,r2,rfl,w2,wa⟩:=wa.cons'
 obtain ⟨d3,r3,rfl,w3,wa⟩:=wa.cons'
 obtain ⟨d4,r4,rfl,w4,wa⟩:=wa.cons'
 obtain ⟨d5,r5,rfl,w5,wa⟩:=wa.cons'
 obtain ⟨d6,r6,rfl,w6,wa⟩:=wa.cons'
 obtain rfl:=wa.nil'
 obtain ⟨n0,rfl,_⟩:=w0.int'
 obtain ⟨n1,rfl,_⟩:=w1.int'
 obtain ⟨n2,rfl,_⟩:=w2.int'
 obtain ⟨s3,rfl,_⟩:=w3.str'
 obtain ⟨l4,rfl,_⟩:=w4.sl'
 obtain ⟨l5,rfl,_⟩:=w5.sl'
 obtain ⟨l6,rfl,_⟩:=w6.sl'
 clear w0 w1 w2 w3 w4 w5 w6
 have hk:n0=1∨n0=6:=hgk
 rcases hk with rfl|rfl
 · repeat' first
    | refine And.intro ?_ ?_
    | (intro h;cases h)
    | (intro h;rw [h])
    | intro h
   all_goals first
    | (show aa _=true;kernel_rfl)|(show am _ _=true;kernel_rfl)|exact True.intro|exact rfl|exact Or.inr rfl|exact Or.inl rfl
    | exact ⟨_,rfl⟩
    | exact resS (mn (a:=[.i 1,.i n1,.i n2,.s s3,.l l4,.l l5,.l l6]) rfl).symm
 · obtain ⟨e0,e1⟩:=hg.err rfl
   have hz:=dM n1
   repeat' first
    | refine And.intro ?_ ?_
    | (intro h;cases h)
    | (intro h;rw [h])
    | intro h
   all_goals first
    | (show aa _=true;kernel_rfl)|(show am _ _=true;kernel_rfl)|exact True.intro|exact rfl|exact Or.inr rfl|exact Or.inl rfl
    | exact ⟨_,e0,e1,rfl⟩
    | exact resS (mo (a:=[.i 6,.i n1,.i n2,.s s3,.l l4,.l l5,.l l6]) rfl).symm
    | (show 6+(errB n1).size≤maxLen;simp only [maxLen];omega)
theorem ok44:FOk Tryz.prog T 44 (lf T cV):=by
 refine fok (env:=envL [(86,sp86),(87,(lf T cV))]) (N:=8) tabT (ac ok86 (ac ok87 af)) mixed Tryz.func44 rfl Tryz.call44 Tryz.ntmps44 ?_
 rintro args ⟨a,wa,hg,rfl⟩ hwf
 have hv:g86 [argG cV a]=true:=(xq _ ⟨a,wa,hg.1,hg.2.1,rfl⟩).trans ((congrArg okVal (au wa)).trans hg.2.2)
 refine ⟨by simp,?_⟩
 rw [Tryz.results44]
 clear hwf
 repeat' first
  | refine And.intro ?_ ?_
  | (intro h;cases h)
  | (intro h;rw [h])
  | intro h
 all_goals first
  | (show aa _=true;kernel_rfl)|(show am _ _=true;kernel_rfl)|exact True.intro|exact rfl|exact Or.inr rfl|exact Or.inl rfl
  | exact ⟨_,wa,rfl⟩
  | exact ⟨_,wa,hg,rfl⟩
  | rfl
  | exact absurd (show (!(g86 [argG cV a]))=true from ‹_›) (by rw [hv];decide)
theorem okF55:FOk Tryz.prog T 55 { pre:=fun _=>False,res:=fun _=>.none }:=by
 refine fok (env:=envL []) (N:=100) tabT af mixed Tryz.func55 rfl Tryz.call55 Tryz.ntmps55 ?_
 exact fun args h=>h.elim
theorem okF102:FOk Tryz.prog T 102 { pre:=fun _=>False,res:=fun _=>.none }:=by
 refine fok (env:=envL []) (N:=7) tabT af mixed Tryz.func102 rfl Tryz.call102 Tryz.ntmps102 ?_
 exact fun args h=>h.elim
theorem ok55:FOk Tryz.prog T 55 (lf T cV):=by
 refine fok (env:=envL [(59,sp59),(72,c7),(101,qC),(55, { pre:=fun _=>False,res:=fun _=>.none }),(102, { pre:=fun _=>False,res:=fun _=>.none }),(60,spJoin)]) (N:=100) tabT (ac ok59 (ac ok72 (ac ok101 (ac okF55 (ac okF102 (ac ok60 af)))))) mixed Tryz.func55 rfl Tryz.call55 Tryz.ntmps55 ?_
 rintro args ⟨a,wa,hg,rfl⟩ hwf
 refine ⟨by simp,?_⟩
 rw [Tryz.results55]
 clear hwf
 have hgk:=hg.2.1
 have wr:=wa
 obtain ⟨d0,r0,rfl,w0,wa⟩:=wa.cons'
 obtain ⟨d1,r1,rfl,w1,wa⟩:=wa.cons'
 obtain ⟨d2,r2,rfl,w2,wa⟩:=wa.cons'
 obtain ⟨d3,r3,rfl,w3,wa⟩:=wa.cons'
 obtain ⟨d4,r4,rfl,w4,wa⟩:=wa.cons'
 obtain ⟨d5,r5,rfl,w5,wa⟩:=wa.cons'
 obtain ⟨d6,r6,rfl,w6,wa⟩:=wa.cons'
 obtain rfl:=wa.nil'
 obtain ⟨n0,rfl,_⟩:=w0.int'
 obtain ⟨n1,rfl,_⟩:=w1.int'
 obtain ⟨n2,rfl,_⟩:=w2.int'
 obtain ⟨s3,rfl,_⟩:=w3.str'
 obtain ⟨l4,rfl,_⟩:=w4.sl'
 obtain ⟨l5,rfl,_⟩:=w5.sl'
 obtain ⟨l6,rfl,_⟩:=w6.sl'
 clear w0 w1 w2 w3 w4 w5 w6
 have hv:svOk [argG cV [.i n0,.i n1,.i n2,.s s3,.l l4,.l l5,.l l6]]=true:=(congrArg okVal (au wr)).trans hg.2.2
 have hk:n0=1∨n0=6:=hgk
 rcases hk with rfl|rfl
 · repeat' first
    | refine And.intro ?_ ?_
    | (intro h;cases h)
    | (intro h;rw [h])
    | intro h
   all_goals first
    | (show aa _=true;kernel_rfl)|(show am _ _=true;kernel_rfl)|exact True.intro|exact rfl|exact Or.inr rfl|exact Or.inl rfl
    | exact ⟨_,wr,hg.1,hg.2.1,rfl⟩
    | exact ⟨_,rfl⟩
    | exact resS (mn (a:=[.i 1,.i n1,.i n2,.s s3,.l l4,.l l5,.l l6]) rfl).symm
    | exact absurd (show (!(svOk [argG cV [.i 1,.i n1,.i n2,.s s3,.l l4,.l l5,.l l6]]))=true from ‹_›) (by rw [hv];decide)
 · obtain ⟨e0,e1⟩:=hg.err rfl
   have hz:=dM n1
   repeat' first
    | refine And.intro ?_ ?_
    | (intro h;cases h)
    | (intro h;rw [h])
    | intro h
   all_goals first
    | (show aa _=true;kernel_rfl)|(show am _ _=true;kernel_rfl)|exact True.intro|exact rfl|exact Or.inr rfl|exact Or.inl rfl
    | exact ⟨_,wr,hg.1,hg.2.1,rfl⟩
    | exact ⟨_,e0,e1,rfl⟩
    | exact resS (mo (a:=[.i 6,.i n1,.i n2,.s s3,.l l4,.l l5,.l l6]) rfl).symm
    | (show 6+(errB n1).size≤maxLen;simp only [maxLen];omega)
    | exact absurd (show (!(svOk [argG cV [.i 6,.i n1,.i n2,.s s3,.l l4,.l l5,.l l6]]))=true from ‹_›) (by rw [hv];decide)
end Go.Proofs.YtdjfhmghebommaaGreatDoor.Ab
