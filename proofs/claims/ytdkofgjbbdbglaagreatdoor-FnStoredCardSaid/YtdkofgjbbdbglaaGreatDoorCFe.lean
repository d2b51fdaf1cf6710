/- A part. -/
import Derived.Test.YtdkofgjbbdbglaaGreatDoorCVc
import Derived.Test.YtdkofgjbbdbglaaGreatDoorCSh
namespace Go.Proofs.YtdkofgjbbdbglaaGreatDoor.Ab
open Go.RowKit
set_option linter.all false
set_option maxRecDepth 100000
set_option maxHeartbeats 1000000
theorem rL {w:World} {X:Nat→Prop} (h:GlR T w X):Lib.TabIs Tryz.prog w "internal/strconv.uint64pow10" .u64 Lib.pow10Tab :=
 vk (g:=2) (by kernel_rfl) (show (2,Lib.pow10Tab.map fun z=>(CT.i .u64,D.i z)) ∈ T.gl from jdP _ (by
  have:(Lib.pow10Tab.map fun z=>(CT.i .u64,D.i z))=[(.i .u64,.i 1),(.i .u64,.i 10),(.i .u64,.i 100),(.i .u64,.i 1000),(.i .u64,.i 10000),(.i .u64,.i 100000),(.i .u64,.i 1000000),(.i .u64,.i 10000000),(.i .u64,.i 100000000),(.i .u64,.i 1000000000),(.i .u64,.i 10000000000),(.i .u64,.i 100000000000),(.i .u64,.i 1000000000000),(.i .u64,.i 10000000000000),(.i .u64,.i 100000000000000),(.i .u64,.i 1000000000000000),(.i .u64,.i 10000000000000000),(.i .u64,.i 100000000000000000),(.i .u64,.i 1000000000000000000),(.i .u64,.i 10000000000000000000)]:=by kernel_rfl
  rw [this]
  exact jdB ..)) h
theorem ok57:FOk Tryz.prog T 57 cu:=zA Tryz.call57 rL fun n h0 h1 w htab=>(Tryz.strconv_Itoa n h0 h1 w htab).mono fun e w' ⟨he,k,os,hw⟩=>⟨he,hw ▸ Lib.below_grow w.heap.size w (jdm _) k os⟩
theorem ok89:FOk Tryz.prog T 89 spJoin:=zx (show T 9=some _ from rfl) rfl Tryz.call89 Tryz.strings_Join_none Tryz.strings_Join
theorem ok110:FOk Tryz.prog T 110 (yO 5):=jco (show T 5=some _ from rfl) rfl Tryz.call110 Tryz.hex_EncodeToString_bytes
theorem ok31:FOk Tryz.prog T 31 cu:=by
 refine fok (env:=envL [(57,cu)]) (N:=5) tabT (aa ok57 ae) mixed Tryz.func31 rfl Tryz.call31 Tryz.ntmps31 ?_
 rintro args ⟨x,rfl⟩ hwf
 refine ⟨by simp,?_⟩
 rw [Tryz.results31]
 repeat' first
  | refine And.intro ?_ ?_
  | (intro h;cases h)
  | (intro h;rw [h])
  | intro h
 all_goals first
  | exact True.intro
  | exact rfl
  | exact Or.inr rfl
  | exact ⟨_,rfl⟩
theorem ok56:FOk Tryz.prog T 56 spJoin:=by
 refine fok (env:=envL [(89,spJoin)]) (N:=8) tabT (aa ok89 ae) mixed Tryz.func56 rfl Tryz.call56 Tryz.ntmps56 ?_
 rintro args ⟨rows,sep,hn,hl,rfl⟩ hwf
 refine ⟨by simp,?_⟩
 rw [Tryz.results56]
 repeat' first
  | refine And.intro ?_ ?_
  | (intro h;cases h)
  | (intro h;rw [h])
  | intro h
 all_goals first
  | exact True.intro
  | exact rfl
  | exact Or.inr rfl
  | exact ⟨_,_,hn,hl,rfl⟩
theorem ok83:FOk Tryz.prog T 83 vw:=by
 refine fok (env:=envL [(110,(yO 5))]) (N:=8) tabT (aa ok110 ae) mixed Tryz.func83 rfl Tryz.call83 Tryz.ntmps83 ?_
 rintro args ⟨s,hs,rfl⟩ hwf
 refine ⟨by simp,?_⟩
 rw [Tryz.results83]
 repeat' first
  | refine And.intro ?_ ?_
  | (intro h;cases h)
  | (intro h;rw [h])
  | intro h
 all_goals first
  | exact True.intro
  | exact Or.inr rfl
  | exact resS (uo (mO ‹_›)).symm
  | exact ⟨s,fp ‹_›,hs,rfl⟩
  | exact resS ((by rw [fK]:_=_).trans (qk (fp ‹_›)).symm)
theorem ok35:FOk Tryz.prog T 35 cu:=by
 refine fok (env:=envL []) (N:=31) tabT ae mixed Tryz.func35 rfl Tryz.call35 Tryz.ntmps35 ?_
 rintro args ⟨x,rfl⟩ hwf
 have hx:inK .i64 x:=arg0 hwf (jdo _)
 clear hwf
 refine ⟨by simp,?_⟩
 rw [Tryz.results35]
 repeat' first
  | refine And.intro ?_ ?_
  | (intro h;cases h)
  | (intro h;rw [h])
  | intro h
 all_goals first
  | exact True.intro
  | exact Or.inr rfl
  | (have h0:x=0:=by simpa using ‹(x == 0)=true›
     subst h0
     exact resS tJ)
  | skip
 have h0:x ≠ 0:=by simpa using ‹(x == 0)=false›
 refine aj (Q:=_) [0,3,4] [] (fun n q=>∃ (y:Int) (o:ByteArray),q=([.val false [.i .i64 y],.val false [.b (decide (x < 0))],.val false [.s o]],[])∧FI x y o∧n=y.natAbs) ?_ ?_
 · exact ⟨rfl,_,x,_,rfl,FI.first h0,rfl⟩
 rintro n q ⟨y,o,rfl,hI,hn⟩
 have hsz:=hI.size hx
 have hmod:=qz y
 repeat' first
  | refine And.intro ?_ ?_
  | (intro h;cases h)
  | (intro h;rw [h])
  | intro h
 all_goals first
  | exact True.intro
  | exact rfl
  | exact Or.inr rfl
  | exact hmod.1
  | exact hmod.2
  | exact size_le rfl hsz
  | exact resS (hI.neg (by simpa using ‹(y != 0)=false›) (jc6 ‹decide (x < 0)=true›))
  | exact resS (hI.pos (by simpa using ‹(y != 0)=false›) (jdh ‹decide (x < 0)=false›))
  | (have hy:y ≠ 0:=by simpa using ‹(y != 0)=true›
     have hlt:(y.tdiv 10).natAbs < y.natAbs:=by rw [pC];omega
     first
      | exact ⟨(y.tdiv 10).natAbs,by omega,y.tdiv 10,_,jbm (fun z s=>([.val false [.i .i64 z],.val false [.b (decide (x < 0))],.val false [.s s]],[])) _ (hI.quo hx),hI.next hy (hI.dig1 (jdh ‹decide (y.tmod 10 < 0)=false›)),rfl⟩
      | exact ⟨(y.tdiv 10).natAbs,by omega,y.tdiv 10,_,jbm (fun z s=>([.val false [.i .i64 z],.val false [.b (decide (x < 0))],.val false [.s s]],[])) _ (hI.quo hx),hI.next hy (hI.dig2 (jc6 ‹decide (y.tmod 10 < 0)=true›)),rfl⟩)
theorem ok60:FOk Tryz.prog T 60 vw:=by
 refine fok (env:=envL []) (N:=34) tabT ae mixed Tryz.func60 rfl Tryz.call60 Tryz.ntmps60 ?_
 rintro args ⟨s,hs,rfl⟩ hwf
 have la:s.size≤maxLen:=arg0 hwf (jdo _)
 clear hwf
 refine ⟨by simp,?_⟩
 rw [Tryz.results60]
 repeat' first
  | refine And.intro ?_ ?_
  | (intro h;cases h)
  | (intro h;rw [h])
  | intro h
 all_goals first
  | exact True.intro
  | exact Or.inr rfl
  | exact resS (uo (mO ‹_›)).symm
  | skip
 have hne:=fp ‹_›
 refine aj (Q:=_) [0,3,4,5] [] (fun n q=>∃ i:Int,q=([.val false [.s s],.val false [.s DIG],.val false [.sl true 5 (dj s i.toNat)],.val false [.i .i64 i]],[])∧0≤i∧i≤s.size∧n=s.size - i.toNat) ?_ ?_
 · exact ⟨rfl,s.size - 0,0,rfl,by omega,by omega,rfl⟩
 rintro n q ⟨i,rfl,h1,h2,h3⟩
 have hln:=kH s i.toNat
 have hhi:=tU (s.data.getD i.toNat 0)
 have hlo:=nn (s.data.getD i.toNat 0)
 repeat' first
  | refine And.intro ?_ ?_
  | (intro h;cases h)
  | (intro h;rw [h])
  | intro h
 all_goals first
  | (show av _=true;kernel_rfl)
  | (show ba _ _=true;kernel_rfl)
  | exact True.intro
  | exact rfl
  | exact Or.inr rfl
  | omega
  | exact jc6 ‹_›
  | exact hhi.1
  | exact hhi.2
  | exact hlo.1
  | exact hlo.2
  | (have hi:¬ i < (s.size:Int):=jdh ‹decide (i < (s.size:Int))=false›
     exact resS (pc (by omega) hne))
  | (have hi:i < (s.size:Int):=jc6 ‹decide (i < (s.size:Int))=true›
     first
      | (show (dj s i.toNat).length+2≤maxLen;simp only [maxLen];omega)
      | (show ((dj s i.toNat).length+2) * 1≤140737488355328;omega)
      | exact ⟨s.size - (i+1).toNat,by omega,i+1,oq (fun r z=>([.val false [.s s],.val false [.s DIG],.val false [.sl true 5 r],.val false [.i .i64 z]],[])) ((nI (by omega)).trans (congrArg (dj s) (by omega))) (aC h1 hi la),by omega,by omega,rfl⟩
      | (have:=tE (s.data.getD i.toNat 0);exact this.1)
      | (have:=tE (s.data.getD i.toNat 0);exact this.2))
theorem ok62:FOk Tryz.prog T 62 spJoin:=by
 refine fok (env:=envL []) (N:=27) tabT ae mixed Tryz.func62 rfl Tryz.call62 Tryz.ntmps62 ?_
 rintro args ⟨rows,sep,hn,hl,rfl⟩ hwf
 have wa:WfD T (.l 9) (.l rows):=arg0 hwf (jdo _)
 have la:=wa.len
 clear hwf
 have hl' : (jn rows sep rows.length).length≤140737488355328:=by
  rw [← xK] at hl
  have:(⟨(jn rows sep rows.length).toArray⟩:ByteArray).size=(jn rows sep rows.length).length:=jdE
  omega
 refine ⟨by simp,?_⟩
 rw [Tryz.results62]
 repeat' first
  | refine And.intro ?_ ?_
  | (intro h;cases h)
  | (intro h;rw [h])
  | intro h
 all_goals first
  | skip
 refine aj (Q:=_) [0,1,5,6] [] (fun n q=>∃ i:Int,q=([argS 9 rows,.val false [.s sep],.val false [.sl true 5 (cE (jn rows sep i.toNat))],.val false [.i .i64 i]],[])∧0≤i∧i≤rows.length∧n=rows.length - i.toNat) ?_ ?_
 · exact ⟨rfl,rows.length - 0,0,rfl,by omega,by omega,rfl⟩
 rintro n q ⟨i,rfl,h1,h2,h3⟩
 repeat' first
  | refine And.intro ?_ ?_
  | (intro h;cases h)
  | (intro h;rw [h])
  | intro h
 all_goals first
  | exact True.intro
  | exact rfl
  | exact Or.inr rfl
  | omega
  | exact jc6 ‹_›
  | (have hi:¬ i < (rows.length:Int):=jdh ‹decide (i < (rows.length:Int))=false›
     have e:i.toNat=rows.length:=by omega
     exact resS (by rw [jf,e];exact xK rows sep))
  | (have hi:i < (rows.length:Int):=jc6 ‹decide (i < (rows.length:Int))=true›
     have hnx:=tI (rows:=rows) (sep:=sep) (k:=i.toNat) (by omega)
     have hle:=jcc (rows:=rows) (sep:=sep) (j:=i.toNat+1) (k:=rows.length - (i.toNat+1)) (by omega)
     have e1:(i+1).toNat=i.toNat+1:=by omega
     first
      | (have hz:i > 0:=jc6 ‹decide (i > 0)=true›
         rw [if_neg (by omega)] at hnx
         have hl3:=congrArg List.length hnx
         simp only [jc8] at hl3
         first
          | (simp only [jc8,ff,nT,maxLen] at *;omega)
          | exact ⟨rows.length - (i+1).toNat,by omega,i+1,oq (fun r z=>([argS 9 rows,.val false [.s sep],.val false [.sl true 5 r],.val false [.i .i64 z]],[])) (by rw [e1,hnx,fg,fg, ← jdM];rfl) (aC h1 hi la),by omega,by omega,rfl⟩)
      | (have hz:¬ i > 0:=jdh ‹decide (i > 0)=false›
         rw [if_pos (by omega)] at hnx
         have h0:i.toNat=0:=by omega
         have hb0:cE (jn rows sep i.toNat)=[]:=by rw [h0];rfl
         have hl3:=congrArg List.length hnx
         first
          | (simp only [hb0,jdu,jc8,ff,nT,maxLen] at *;omega)
          | exact ⟨rows.length - (i+1).toNat,by omega,i+1,oq (fun r z=>([argS 9 rows,.val false [.s sep],.val false [.sl true 5 r],.val false [.i .i64 z]],[])) (by rw [hb0,e1,hnx];rfl) (aC h1 hi la),by omega,by omega,rfl⟩))
theorem ok173:FOk Tryz.prog T 173 se:=by
 refine fok (env:=envL []) (N:=2) tabT ae mixed Tryz.func173 rfl Tryz.call173 Tryz.ntmps173 ?_
 rintro args rfl hwf
 refine ⟨by simp,?_⟩
 rw [Tryz.results173]
 repeat' first
  | refine And.intro ?_ ?_
  | (intro h;cases h)
  | (intro h;rw [h])
  | intro h
 all_goals first
  | exact True.intro
  | exact rfl
  | exact Or.inr rfl
theorem ok122:FOk Tryz.prog T 122 qB:=by
 refine fok (env:=envL [(37,spIn),(173,se)]) (N:=10) tabT (aa ok37 (aa ok173 ae)) mixed Tryz.func122 rfl Tryz.call122 Tryz.ntmps122 ?_
 rintro args ⟨x,h0,h1,rfl⟩ hwf
 refine ⟨by simp,?_⟩
 rw [Tryz.results122]
 repeat' first
  | refine And.intro ?_ ?_
  | (intro h;cases h)
  | (intro h;rw [h])
  | intro h
 all_goals first
  | exact True.intro
  | exact rfl
  | exact Or.inr rfl
  | exact ⟨_,_,_,rfl⟩
  | (exfalso;simp_all [inR];done)
  | exact resS (zP h0 h1)
  | omega
  | (show x < 9;omega)
theorem ok87:FOk Tryz.prog T 87 qB:=by
 refine fok (env:=envL [(33,spIn)]) (N:=11) tabT (aa ok33 ae) mixed Tryz.func87 rfl Tryz.call87 Tryz.ntmps87 ?_
 rintro args ⟨x,h0,h1,rfl⟩ hwf
 refine ⟨by simp,?_⟩
 rw [Tryz.results87]
 repeat' first
  | refine And.intro ?_ ?_
  | (intro h;cases h)
  | (intro h;rw [h])
  | intro h
 all_goals first
  | exact True.intro
  | exact Or.inr rfl
  | exact ⟨_,_,_,rfl⟩
  | (exfalso;simp_all [inR];done)
  | exact resS (vY h0 h1)
  | (rw [IntKind.wrap_i64];omega)
  | (show IntKind.i64.wrap (x - 1) < 8;rw [IntKind.wrap_i64];omega)
theorem okF84:FOk Tryz.prog T 84 { pre:=fun _=>False,res:=fun _=>.none }:=by
 refine fok (env:=envL []) (N:=29) tabT ae mixed Tryz.func84 rfl Tryz.call84 Tryz.ntmps84 ?_
 exact fun args h=>h.elim
theorem okF85:FOk Tryz.prog T 85 { pre:=fun _=>False,res:=fun _=>.none }:=by
 refine fok (env:=envL []) (N:=77) tabT ae mixed Tryz.func85 rfl Tryz.call85 Tryz.ntmps85 ?_
 exact fun args h=>h.elim
theorem okF54:FOk Tryz.prog T 54 { pre:=fun _=>False,res:=fun _=>.none }:=by
 refine fok (env:=envL []) (N:=185) tabT ae mixed Tryz.func54 rfl Tryz.call54 Tryz.ntmps54 ?_
 exact fun args h=>h.elim
theorem okF86:FOk Tryz.prog T 86 { pre:=fun _=>False,res:=fun _=>.none }:=by
 refine fok (env:=envL []) (N:=20) tabT ae mixed Tryz.func86 rfl Tryz.call86 Tryz.ntmps86 ?_
 exact fun args h=>h.elim
noncomputable def sp54:FSpec:={ pre:=fun args=>∃ a:List D,WfRow T cV a∧(a.getD 5 default).rows.length+(a.getD 6 default).rows.length≤4611686018427387904∧((a.getD 0 default).int=1∨(a.getD 0 default).int=6)∧args=[argG cV a],res:=fun args=>.val false [.b (svOk args)] }
theorem ok54:FOk Tryz.prog T 54 sp54:=by
 refine fok (env:=envL [(82,jb),(84, { pre:=fun _=>False,res:=fun _=>.none }),(33,spIn),(85, { pre:=fun _=>False,res:=fun _=>.none }),(54, { pre:=fun _=>False,res:=fun _=>.none }),(86, { pre:=fun _=>False,res:=fun _=>.none })]) (N:=185) tabT (aa ok82 (aa okF84 (aa ok33 (aa okF85 (aa okF54 (aa okF86 ae)))))) mixed Tryz.func54 rfl Tryz.call54 Tryz.ntmps54 ?_
 rintro args ⟨a,wa,hl,hk,rfl⟩ hwf
 refine ⟨by simp,?_⟩
 rw [Tryz.results54]
 clear hwf
 obtain ⟨d0,r0,rfl,w0,wa⟩:=wa.cons'
 obtain ⟨d1,r1,rfl,w1,wa⟩:=wa.cons'
 obtain ⟨d2,r2,rfl,w2,wa⟩:=wa.cons'
 obtain ⟨d3,r3,rfl,w3,wa⟩:=wa.cons'
 obtain ⟨d4,r4,rfl,w4,wa⟩:=wa.cons'
 obtain ⟨d5,r5,rfl,w5,wa⟩:=wa.cons'
 obtain ⟨d6,r6,rfl,w6,wa⟩:=wa.cons'
 obtain rfl:=wa.nil'
 obtain ⟨n0,rfl,_⟩:=w0.int'
 obtain ⟨n1,rfl,_⟩:=w1.int'
 obtain ⟨n2,rfl,_⟩:=w2.int'
 obtain ⟨s3,rfl,_⟩:=w3.str'
 obtain ⟨l4,rfl,_⟩:=w4.sl'
 obtain ⟨l5,rfl,_⟩:=w5.sl'
 obtain ⟨l6,rfl,_⟩:=w6.sl'
 clear w0 w1 w2 w3 w4 w5 w6
 have hl:l5.length+l6.length≤4611686018427387904:=hl
 have hk:n0=1∨n0=6:=hk
 rcases hk with rfl|rfl
 all_goals
  repeat' first
   | refine And.intro ?_ ?_
   | (intro h;cases h)
   | (intro h;rw [h])
   | intro h
 all_goals first
  | exact True.intro
  | exact Or.inr rfl
  | exact ⟨_,rfl⟩
  | exact ⟨_,_,_,rfl⟩
  | (refine resB ?_;show _=okVal [_,_,_,_,_,_,_];simp_all [okVal,inR,CV.d,ofD,IntKind.wrap_i64,jeQ,jeP,D.int,D.rows,D.str];done)
theorem okF121:FOk Tryz.prog T 121 { pre:=fun _=>False,res:=fun _=>.none }:=by
 refine fok (env:=envL []) (N:=48) tabT ae mixed Tryz.func121 rfl Tryz.call121 Tryz.ntmps121 ?_
 exact fun args h=>h.elim
theorem okF94:FOk Tryz.prog T 94 { pre:=fun _=>False,res:=fun _=>.none }:=by
 refine fok (env:=envL []) (N:=69) tabT ae mixed Tryz.func94 rfl Tryz.call94 Tryz.ntmps94 ?_
 exact fun args h=>h.elim
theorem ok94:FOk Tryz.prog T 94 (kV T cV):=by
 refine fok (env:=envL [(35,cu),(62,spJoin),(121, { pre:=fun _=>False,res:=fun _=>.none }),(122,qB),(94, { pre:=fun _=>False,res:=fun _=>.none })]) (N:=69) tabT (aa ok35 (aa ok62 (aa okF121 (aa ok122 (aa okF94 ae))))) mixed Tryz.func94 rfl Tryz.call94 Tryz.ntmps94 ?_
 rintro args ⟨a,wa,hg,rfl⟩ hwf
 refine ⟨by simp,?_⟩
 rw [Tryz.results94]
 clear hwf
 have hgk:=hg.2.1
 obtain ⟨d0,r0,rfl,w0,wa⟩:=wa.cons'
 obtain ⟨d1,r1,rfl,w1,wa⟩:=wa.cons'
 obtain ⟨d2,r2,rfl,w2,wa⟩:=wa.cons'
 obtain ⟨d3,r3,rfl,w3,wa⟩:=wa.cons'
 obtain ⟨d4,r4,rfl,w4,wa⟩:=wa.cons'
 obtain ⟨d5,r5,rfl,w5,wa⟩:=wa.cons'
 obtain ⟨d6,r6,rfl,w6,wa⟩:=wa.cons'
 obtain rfl:=wa.nil'
 obtain ⟨n0,rfl,_⟩:=w0.int'
 obtain ⟨n1,rfl,_⟩:=w1.int'
 obtain ⟨n2,rfl,_⟩:=w2.int'
 obtain ⟨s3,rfl,_⟩:=w3.str'
 obtain ⟨l4,rfl,_⟩:=w4.sl'
 obtain ⟨l5,rfl,_⟩:=w5.sl'
 obtain ⟨l6,rfl,_⟩:=w6.sl'
 clear w0 w1 w2 w3 w4 w5 w6
 have hk:n0=1∨n0=6:=hgk
 rcases hk with rfl|rfl
 · repeat' first
    | refine And.intro ?_ ?_
    | (intro h;cases h)
    | (intro h;rw [h])
    | intro h
   all_goals first
    | exact True.intro
    | exact rfl
    | exact Or.inr rfl
    | exact ⟨_,rfl⟩
 · obtain ⟨e0,e1⟩:=hg.err rfl
   have hz:=dN n1
   repeat' first
    | refine And.intro ?_ ?_
    | (intro h;cases h)
    | (intro h;rw [h])
    | intro h
   all_goals first
    | exact True.intro
    | exact rfl
    | exact Or.inr rfl
    | exact ⟨_,e0,e1,rfl⟩
    | (show 6+(errB n1).size≤maxLen;simp only [maxLen];omega)
theorem ok61:FOk Tryz.prog T 61 (kV T cV):=by
 refine fok (env:=envL [(91,sp91),(94,(kV T cV))]) (N:=8) tabT (aa ok91 (aa ok94 ae)) mixed Tryz.func61 rfl Tryz.call61 Tryz.ntmps61 ?_
 rintro args ⟨a,wa,hg,rfl⟩ hwf
 have hv:g91 [argG cV a]=true:=(yu _ ⟨a,wa,hg.1,hg.2.1,rfl⟩).trans ((congrArg okVal (aw wa)).trans hg.2.2)
 refine ⟨by simp,?_⟩
 rw [Tryz.results61]
 clear hwf
 repeat' first
  | refine And.intro ?_ ?_
  | (intro h;cases h)
  | (intro h;rw [h])
  | intro h
 all_goals first
  | exact True.intro
  | exact rfl
  | exact Or.inr rfl
  | exact ⟨_,wa,rfl⟩
  | exact ⟨_,wa,hg,rfl⟩
  | exact absurd (show (!(g91 [argG cV a]))=true from ‹_›) (by rw [hv];decide)
theorem okF55:FOk Tryz.prog T 55 { pre:=fun _=>False,res:=fun _=>.none }:=by
 refine fok (env:=envL []) (N:=100) tabT ae mixed Tryz.func55 rfl Tryz.call55 Tryz.ntmps55 ?_
 exact fun args h=>h.elim
theorem okF88:FOk Tryz.prog T 88 { pre:=fun _=>False,res:=fun _=>.none }:=by
 refine fok (env:=envL []) (N:=7) tabT ae mixed Tryz.func88 rfl Tryz.call88 Tryz.ntmps88 ?_
 exact fun args h=>h.elim
theorem ok55:FOk Tryz.prog T 55 (kV T cV):=by
 refine fok (env:=envL [(54,sp54),(31,cu),(87,qB),(55, { pre:=fun _=>False,res:=fun _=>.none }),(88, { pre:=fun _=>False,res:=fun _=>.none }),(56,spJoin)]) (N:=100) tabT (aa ok54 (aa ok31 (aa ok87 (aa okF55 (aa okF88 (aa ok56 ae)))))) mixed Tryz.func55 rfl Tryz.call55 Tryz.ntmps55 ?_
 rintro args ⟨a,wa,hg,rfl⟩ hwf
 refine ⟨by simp,?_⟩
 rw [Tryz.results55]
 clear hwf
 have hgk:=hg.2.1
 have wr:=wa
 obtain ⟨d0,r0,rfl,w0,wa⟩:=wa.cons'
 obtain ⟨d1,r1,rfl,w1,wa⟩:=wa.cons'
 obtain ⟨d2,r2,rfl,w2,wa⟩:=wa.cons'
 obtain ⟨d3,r3,rfl,w3,wa⟩:=wa.cons'
 obtain ⟨d4,r4,rfl,w4,wa⟩:=wa.cons'
 obtain ⟨d5,r5,rfl,w5,wa⟩:=wa.cons'
 obtain ⟨d6,r6,rfl,w6,wa⟩:=wa.cons'
 obtain rfl:=wa.nil'
 obtain ⟨n0,rfl,_⟩:=w0.int'
 obtain ⟨n1,rfl,_⟩:=w1.int'
 obtain ⟨n2,rfl,_⟩:=w2.int'
 obtain ⟨s3,rfl,_⟩:=w3.str'
 obtain ⟨l4,rfl,_⟩:=w4.sl'
 obtain ⟨l5,rfl,_⟩:=w5.sl'
 obtain ⟨l6,rfl,_⟩:=w6.sl'
 clear w0 w1 w2 w3 w4 w5 w6
 have hv:svOk [argG cV [.i n0,.i n1,.i n2,.s s3,.l l4,.l l5,.l l6]]=true:=(congrArg okVal (aw wr)).trans hg.2.2
 have hk:n0=1∨n0=6:=hgk
 rcases hk with rfl|rfl
 · repeat' first
    | refine And.intro ?_ ?_
    | (intro h;cases h)
    | (intro h;rw [h])
    | intro h
   all_goals first
    | exact True.intro
    | exact rfl
    | exact Or.inr rfl
    | exact ⟨_,wr,hg.1,hg.2.1,rfl⟩
    | exact ⟨_,rfl⟩
    | exact absurd (show (!(svOk [argG cV [.i 1,.i n1,.i n2,.s s3,.l l4,.l l5,.l l6]]))=true from ‹_›) (by rw [hv];decide)
 · obtain ⟨e0,e1⟩:=hg.err rfl
   have hz:=dN n1
   repeat' first
    | refine And.intro ?_ ?_
    | (intro h;cases h)
    | (intro h;rw [h])
    | intro h
   all_goals first
    | exact True.intro
    | exact rfl
    | exact Or.inr rfl
    | exact ⟨_,wr,hg.1,hg.2.1,rfl⟩
    | exact ⟨_,e0,e1,rfl⟩
    | (show 6+(errB n1).size≤maxLen;simp only [maxLen];omega)
    | exact absurd (show (!(svOk [argG cV [.i 6,.i n1,.i n2,.s s3,.l l4,.l l5,.l l6]]))=true from ‹_›) (by rw [hv];decide)
end Go.Proofs.YtdkofgjbbdbglaaGreatDoor.Ab
