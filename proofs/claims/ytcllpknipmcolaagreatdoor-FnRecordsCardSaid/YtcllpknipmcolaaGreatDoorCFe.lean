/- Functions of formats, exactly: printed by a program of this -/
import Derived.Test.YtcllpknipmcolaaGreatDoorCVc
import Derived.Test.YtcllpknipmcolaaGreatDoorCSh
namespace Go.Proofs.YtcllpknipmcolaaGreatDoor.Ab
open Go.RowKit
set_option linter.all false
set_option maxRecDepth 100000
set_option maxHeartbeats 1000000
theorem rA {w:World} {X:Nat→Prop} (h:GlR T w X):Lib.TabIs Tryz.prog w "internal/strconv.uint64pow10" .u64 Lib.pow10Tab :=
 uS (g:=3) (by kernel_rfl) (show (3,Lib.pow10Tab.map fun z=>(CT.i .u64,D.i z)) ∈ T.gl from jc3 _ (by
  have:(Lib.pow10Tab.map fun z=>(CT.i .u64,D.i z))=[(.i .u64,.i 1),(.i .u64,.i 10),(.i .u64,.i 100),(.i .u64,.i 1000),(.i .u64,.i 10000),(.i .u64,.i 100000),(.i .u64,.i 1000000),(.i .u64,.i 10000000),(.i .u64,.i 100000000),(.i .u64,.i 1000000000),(.i .u64,.i 10000000000),(.i .u64,.i 100000000000),(.i .u64,.i 1000000000000),(.i .u64,.i 10000000000000),(.i .u64,.i 100000000000000),(.i .u64,.i 1000000000000000),(.i .u64,.i 10000000000000000),(.i .u64,.i 100000000000000000),(.i .u64,.i 1000000000000000000),(.i .u64,.i 10000000000000000000)]:=by kernel_rfl
  rw [this]
  exact jcP ..)) h
theorem ok47:FOk Tryz.prog T 47 cr:=yV Tryz.call47 rA fun n h0 h1 w htab=>(Tryz.strconv_Itoa n h0 h1 w htab).mono fun e w' ⟨he,k,os,hw⟩=>⟨he,hw ▸ Lib.below_grow w.heap.size w (jcA _) k os⟩
theorem ok61:FOk Tryz.prog T 61 spJoin:=yS (show T 9=some _ from rfl) rfl Tryz.call61 Tryz.strings_Join_none Tryz.strings_Join
theorem ok86:FOk Tryz.prog T 86 (yi 5):=jbB (show T 5=some _ from rfl) rfl Tryz.call86 Tryz.hex_EncodeToString_bytes
theorem ok17:FOk Tryz.prog T 17 cr:=by
 refine fok (env:=envL [(47,cr)]) (N:=5) tabT (aa ok47 ae) mixed Tryz.func17 rfl Tryz.call17 Tryz.ntmps17 ?_
 rintro args ⟨x,rfl⟩ hwf
 refine ⟨by simp,?_⟩
 rw [Tryz.results17]
 repeat' first
  | (refine And.intro ?_ ?_)
  | (intro h;cases h)
  | (intro h;rw [h])
  | (intro h)
 all_goals first
  | exact True.intro
  | exact rfl
  | exact Or.inr rfl
  | exact ⟨_,rfl⟩
theorem ok27:FOk Tryz.prog T 27 spJoin:=by
 refine fok (env:=envL [(61,spJoin)]) (N:=8) tabT (aa ok61 ae) mixed Tryz.func27 rfl Tryz.call27 Tryz.ntmps27 ?_
 rintro args ⟨rows,sep,hn,hl,rfl⟩ hwf
 refine ⟨by simp,?_⟩
 rw [Tryz.results27]
 repeat' first
  | (refine And.intro ?_ ?_)
  | (intro h;cases h)
  | (intro h;rw [h])
  | (intro h)
 all_goals first
  | exact True.intro
  | exact rfl
  | exact Or.inr rfl
  | exact ⟨_,_,hn,hl,rfl⟩
theorem ok55:FOk Tryz.prog T 55 uY:=by
 refine fok (env:=envL [(86,(yi 5))]) (N:=8) tabT (aa ok86 ae) mixed Tryz.func55 rfl Tryz.call55 Tryz.ntmps55 ?_
 rintro args ⟨s,hs,rfl⟩ hwf
 refine ⟨by simp,?_⟩
 rw [Tryz.results55]
 repeat' first
  | (refine And.intro ?_ ?_)
  | (intro h;cases h)
  | (intro h;rw [h])
  | (intro h)
 all_goals first
  | exact True.intro
  | exact Or.inr rfl
  | exact resS (tX (pr ‹_›)).symm
  | exact ⟨s,gm ‹_›,hs,rfl⟩
  | exact resS ((by rw [fG]:_=_).trans (qc (gm ‹_›)).symm)
theorem ok20:FOk Tryz.prog T 20 cr:=by
 refine fok (env:=envL []) (N:=31) tabT ae mixed Tryz.func20 rfl Tryz.call20 Tryz.ntmps20 ?_
 rintro args ⟨x,rfl⟩ hwf
 have hx:inK .i64 x:=arg0 hwf (jcC _)
 clear hwf
 refine ⟨by simp,?_⟩
 rw [Tryz.results20]
 repeat' first
  | (refine And.intro ?_ ?_)
  | (intro h;cases h)
  | (intro h;rw [h])
  | (intro h)
 all_goals first
  | exact True.intro
  | exact Or.inr rfl
  | (have h0:x=0:=by simpa using ‹(x == 0)=true›
     subst h0
     exact resS tq)
  | skip
 have h0:x ≠ 0:=by simpa using ‹(x == 0)=false›
 refine am (Q:=_) [0,3,4] [] (fun n q=>∃ (y:Int) (o:ByteArray),q=([.val false [.i .i64 y],.val false [.b (decide (x < 0))],.val false [.s o]],[])∧FI x y o∧n=y.natAbs) ?_ ?_
 · exact ⟨rfl,_,x,_,rfl,FI.first h0,rfl⟩
 rintro n q ⟨y,o,rfl,hI,hn⟩
 have hsz:=hI.size hx
 have hmod:=qo y
 repeat' first
  | (refine And.intro ?_ ?_)
  | (intro h;cases h)
  | (intro h;rw [h])
  | (intro h)
 all_goals first
  | exact True.intro
  | exact rfl
  | exact Or.inr rfl
  | exact hmod.1
  | exact hmod.2
  | exact size_le rfl hsz
  | exact resS (hI.neg (by simpa using ‹(y != 0)=false›) (jck ‹decide (x < 0)=true›))
  | exact resS (hI.pos (by simpa using ‹(y != 0)=false›) (jcv ‹decide (x < 0)=false›))
  | (have hy:y ≠ 0:=by simpa using ‹(y != 0)=true›
     have hlt:(y.tdiv 10).natAbs < y.natAbs:=by rw [pq];omega
     first
      | exact ⟨(y.tdiv 10).natAbs,by omega,y.tdiv 10,_,jaF (fun z s=>([.val false [.i .i64 z],.val false [.b (decide (x < 0))],.val false [.s s]],[])) _ (hI.quo hx),hI.next hy (hI.dig1 (jcv ‹decide (y.tmod 10 < 0)=false›)),rfl⟩
      | exact ⟨(y.tdiv 10).natAbs,by omega,y.tdiv 10,_,jaF (fun z s=>([.val false [.i .i64 z],.val false [.b (decide (x < 0))],.val false [.s s]],[])) _ (hI.quo hx),hI.next hy (hI.dig2 (jck ‹decide (y.tmod 10 < 0)=true›)),rfl⟩)
theorem ok50:FOk Tryz.prog T 50 uY:=by
 refine fok (env:=envL []) (N:=34) tabT ae mixed Tryz.func50 rfl Tryz.call50 Tryz.ntmps50 ?_
 rintro args ⟨s,hs,rfl⟩ hwf
 have la:s.size≤maxLen:=arg0 hwf (jcC _)
 clear hwf
 refine ⟨by simp,?_⟩
 rw [Tryz.results50]
 repeat' first
  | (refine And.intro ?_ ?_)
  | (intro h;cases h)
  | (intro h;rw [h])
  | (intro h)
 all_goals first
  | exact True.intro
  | exact Or.inr rfl
  | exact resS (tX (pr ‹_›)).symm
  | skip
 have hne:=gm ‹_›
 refine am (Q:=_) [0,3,4,5] [] (fun n q=>∃ i:Int,q=([.val false [.s s],.val false [.s DIG],.val false [.sl true 5 (dh s i.toNat)],.val false [.i .i64 i]],[])∧0≤i∧i≤s.size∧n=s.size - i.toNat) ?_ ?_
 · exact ⟨rfl,s.size - 0,0,rfl,by omega,by omega,rfl⟩
 rintro n q ⟨i,rfl,h1,h2,h3⟩
 have hln:=kw s i.toNat
 have hhi:=tH (s.data.getD i.toNat 0)
 have hlo:=ne (s.data.getD i.toNat 0)
 repeat' first
  | (refine And.intro ?_ ?_)
  | (intro h;cases h)
  | (intro h;rw [h])
  | (intro h)
 all_goals first
  | (show av _=true;kernel_rfl)
  | (show aX _ _=true;kernel_rfl)
  | exact True.intro
  | exact rfl
  | exact Or.inr rfl
  | omega
  | exact jck ‹_›
  | exact hhi.1
  | exact hhi.2
  | exact hlo.1
  | exact hlo.2
  | (have hi:¬ i < (s.size:Int):=jcv ‹decide (i < (s.size:Int))=false›
     exact resS (oV (by omega) hne))
  | (have hi:i < (s.size:Int):=jck ‹decide (i < (s.size:Int))=true›
     first
      | (show (dh s i.toNat).length+2≤maxLen;simp only [maxLen];omega)
      | (show ((dh s i.toNat).length+2) * 1≤140737488355328;omega)
      | exact ⟨s.size - (i+1).toNat,by omega,i+1,oe (fun r z=>([.val false [.s s],.val false [.s DIG],.val false [.sl true 5 r],.val false [.i .i64 z]],[])) ((nB (by omega)).trans (congrArg (dh s) (by omega))) (aE h1 hi la),by omega,by omega,rfl⟩
      | (have:=tj (s.data.getD i.toNat 0);exact this.1)
      | (have:=tj (s.data.getD i.toNat 0);exact this.2))
theorem ok52:FOk Tryz.prog T 52 spJoin:=by
 refine fok (env:=envL []) (N:=27) tabT ae mixed Tryz.func52 rfl Tryz.call52 Tryz.ntmps52 ?_
 rintro args ⟨rows,sep,hn,hl,rfl⟩ hwf
 have wa:WfD T (.l 9) (.l rows):=arg0 hwf (jcC _)
 have la:=wa.len
 clear hwf
 have hl' : (jn rows sep rows.length).length≤140737488355328:=by
  rw [← xd] at hl
  have:(⟨(jn rows sep rows.length).toArray⟩:ByteArray).size=(jn rows sep rows.length).length:=jcS
  omega
 refine ⟨by simp,?_⟩
 rw [Tryz.results52]
 repeat' first
  | (refine And.intro ?_ ?_)
  | (intro h;cases h)
  | (intro h;rw [h])
  | (intro h)
 all_goals first
  | skip
 refine am (Q:=_) [0,1,5,6] [] (fun n q=>∃ i:Int,q=([argS 9 rows,.val false [.s sep],.val false [.sl true 5 (cC (jn rows sep i.toNat))],.val false [.i .i64 i]],[])∧0≤i∧i≤rows.length∧n=rows.length - i.toNat) ?_ ?_
 · exact ⟨rfl,rows.length - 0,0,rfl,by omega,by omega,rfl⟩
 rintro n q ⟨i,rfl,h1,h2,h3⟩
 repeat' first
  | (refine And.intro ?_ ?_)
  | (intro h;cases h)
  | (intro h;rw [h])
  | (intro h)
 all_goals first
  | exact True.intro
  | exact rfl
  | exact Or.inr rfl
  | omega
  | exact jck ‹_›
  | (have hi:¬ i < (rows.length:Int):=jcv ‹decide (i < (rows.length:Int))=false›
     have e:i.toNat=rows.length:=by omega
     exact resS (by rw [iX,e];exact xd rows sep))
  | (have hi:i < (rows.length:Int):=jck ‹decide (i < (rows.length:Int))=true›
     have hnx:=tp (rows:=rows) (sep:=sep) (k:=i.toNat) (by omega)
     have hle:=jbp (rows:=rows) (sep:=sep) (j:=i.toNat+1) (k:=rows.length - (i.toNat+1)) (by omega)
     have e1:(i+1).toNat=i.toNat+1:=by omega
     first
      | (have hz:i > 0:=jck ‹decide (i > 0)=true›
         rw [if_neg (by omega)] at hnx
         have hl3:=congrArg List.length hnx
         simp only [jcm] at hl3
         first
          | (simp only [jcm,fb,nM,maxLen] at *;omega)
          | exact ⟨rows.length - (i+1).toNat,by omega,i+1,oe (fun r z=>([argS 9 rows,.val false [.s sep],.val false [.sl true 5 r],.val false [.i .i64 z]],[])) (by rw [e1,hnx,fc,fc, ← jc0];rfl) (aE h1 hi la),by omega,by omega,rfl⟩)
      | (have hz:¬ i > 0:=jcv ‹decide (i > 0)=false›
         rw [if_pos (by omega)] at hnx
         have h0:i.toNat=0:=by omega
         have hb0:cC (jn rows sep i.toNat)=[]:=by rw [h0];rfl
         have hl3:=congrArg List.length hnx
         first
          | (simp only [hb0,jcI,jcm,fb,nM,maxLen] at *;omega)
          | exact ⟨rows.length - (i+1).toNat,by omega,i+1,oe (fun r z=>([argS 9 rows,.val false [.s sep],.val false [.sl true 5 r],.val false [.i .i64 z]],[])) (by rw [hb0,e1,hnx];rfl) (aE h1 hi la),by omega,by omega,rfl⟩))
theorem ok161:FOk Tryz.prog T 161 rW:=by
 refine fok (env:=envL []) (N:=2) tabT ae mixed Tryz.func161 rfl Tryz.call161 Tryz.ntmps161 ?_
 rintro args rfl hwf
 refine ⟨by simp,?_⟩
 rw [Tryz.results161]
 repeat' first
  | (refine And.intro ?_ ?_)
  | (intro h;cases h)
  | (intro h;rw [h])
  | (intro h)
 all_goals first
  | exact True.intro
  | exact rfl
  | exact Or.inr rfl
theorem ok129:FOk Tryz.prog T 129 qq:=by
 refine fok (env:=envL [(126,spIn),(161,rW)]) (N:=10) tabT (aa ok126 (aa ok161 ae)) mixed Tryz.func129 rfl Tryz.call129 Tryz.ntmps129 ?_
 rintro args ⟨x,h0,h1,rfl⟩ hwf
 refine ⟨by simp,?_⟩
 rw [Tryz.results129]
 repeat' first
  | (refine And.intro ?_ ?_)
  | (intro h;cases h)
  | (intro h;rw [h])
  | (intro h)
 all_goals first
  | exact True.intro
  | exact rfl
  | exact Or.inr rfl
  | exact ⟨_,_,_,rfl⟩
  | (exfalso;simp_all [inR];done)
  | exact resS (zi h0 h1)
  | omega
  | (show x < 9;omega)
theorem ok59:FOk Tryz.prog T 59 qq:=by
 refine fok (env:=envL [(53,spIn)]) (N:=11) tabT (aa ok53 ae) mixed Tryz.func59 rfl Tryz.call59 Tryz.ntmps59 ?_
 rintro args ⟨x,h0,h1,rfl⟩ hwf
 refine ⟨by simp,?_⟩
 rw [Tryz.results59]
 repeat' first
  | (refine And.intro ?_ ?_)
  | (intro h;cases h)
  | (intro h;rw [h])
  | (intro h)
 all_goals first
  | exact True.intro
  | exact Or.inr rfl
  | exact ⟨_,_,_,rfl⟩
  | (exfalso;simp_all [inR];done)
  | exact resS (vA h0 h1)
  | (rw [IntKind.wrap_i64];omega)
  | (show IntKind.i64.wrap (x - 1) < 8;rw [IntKind.wrap_i64];omega)
theorem okF56:FOk Tryz.prog T 56 { pre:=fun _=>False,res:=fun _=>.none }:=by
 refine fok (env:=envL []) (N:=29) tabT ae mixed Tryz.func56 rfl Tryz.call56 Tryz.ntmps56 ?_
 exact fun args h=>h.elim
theorem okF57:FOk Tryz.prog T 57 { pre:=fun _=>False,res:=fun _=>.none }:=by
 refine fok (env:=envL []) (N:=77) tabT ae mixed Tryz.func57 rfl Tryz.call57 Tryz.ntmps57 ?_
 exact fun args h=>h.elim
theorem okF25:FOk Tryz.prog T 25 { pre:=fun _=>False,res:=fun _=>.none }:=by
 refine fok (env:=envL []) (N:=185) tabT ae mixed Tryz.func25 rfl Tryz.call25 Tryz.ntmps25 ?_
 exact fun args h=>h.elim
theorem okF58:FOk Tryz.prog T 58 { pre:=fun _=>False,res:=fun _=>.none }:=by
 refine fok (env:=envL []) (N:=20) tabT ae mixed Tryz.func58 rfl Tryz.call58 Tryz.ntmps58 ?_
 exact fun args h=>h.elim
noncomputable def sp25:FSpec:={ pre:=fun args=>∃ a:List D,WfRow T cV a∧(a.getD 5 default).rows.length+(a.getD 6 default).rows.length≤4611686018427387904∧((a.getD 0 default).int=1∨(a.getD 0 default).int=6)∧args=[argG cV a],res:=fun args=>.val false [.b (svOk args)] }
theorem ok25:FOk Tryz.prog T 25 sp25:=by
 refine fok (env:=envL [(54,iU),(56, { pre:=fun _=>False,res:=fun _=>.none }),(53,spIn),(57, { pre:=fun _=>False,res:=fun _=>.none }),(25, { pre:=fun _=>False,res:=fun _=>.none }),(58, { pre:=fun _=>False,res:=fun _=>.none })]) (N:=185) tabT (aa ok54 (aa okF56 (aa ok53 (aa okF57 (aa okF25 (aa okF58 ae)))))) mixed Tryz.func25 rfl Tryz.call25 Tryz.ntmps25 ?_
 rintro args ⟨a,wa,hl,hk,rfl⟩ hwf
 refine ⟨by simp,?_⟩
 rw [Tryz.results25]
 clear hwf
 obtain ⟨d0,r0,rfl,w0,wa⟩:=wa.cons'
 obtain ⟨d1,r1,rfl,w1,wa⟩:=wa.cons'
 obtain ⟨d2,r2,rfl,w2,wa⟩:=wa.cons'
 obtain ⟨d3,r3,rfl,w3,wa⟩:=wa.cons'
 obtain ⟨d4,r4,rfl,w4,wa⟩:=wa.cons'
 obtain ⟨d5,r5,rfl,w5,wa⟩:=wa.cons'
 obtain ⟨d6,r6,rfl,w6,wa⟩:=wa.cons'
 obtain rfl:=wa.nil'
 obtain ⟨n0,rfl,_⟩:=w0.int'
 obtain ⟨n1,rfl,_⟩:=w1.int'
 obtain ⟨n2,rfl,_⟩:=w2.int'
 obtain ⟨s3,rfl,_⟩:=w3.str'
 obtain ⟨l4,rfl,_⟩:=w4.sl'
 obtain ⟨l5,rfl,_⟩:=w5.sl'
 obtain ⟨l6,rfl,_⟩:=w6.sl'
 clear w0 w1 w2 w3 w4 w5 w6
 have hl:l5.length+l6.length≤4611686018427387904:=hl
 have hk:n0=1∨n0=6:=hk
 rcases hk with rfl|rfl
 all_goals
  repeat' first
   | (refine And.intro ?_ ?_)
   | (intro h;cases h)
   | (intro h;rw [h])
   | (intro h)
 all_goals first
  | exact True.intro
  | exact Or.inr rfl
  | exact ⟨_,rfl⟩
  | exact ⟨_,_,_,rfl⟩
  | (refine resB ?_;show _=okVal [_,_,_,_,_,_,_];simp_all [okVal,inR,CV.d,ofD,IntKind.wrap_i64,jd4,jd3,D.int,D.rows,D.str];done)
theorem okF128:FOk Tryz.prog T 128 { pre:=fun _=>False,res:=fun _=>.none }:=by
 refine fok (env:=envL []) (N:=48) tabT ae mixed Tryz.func128 rfl Tryz.call128 Tryz.ntmps128 ?_
 exact fun args h=>h.elim
theorem okF85:FOk Tryz.prog T 85 { pre:=fun _=>False,res:=fun _=>.none }:=by
 refine fok (env:=envL []) (N:=69) tabT ae mixed Tryz.func85 rfl Tryz.call85 Tryz.ntmps85 ?_
 exact fun args h=>h.elim
theorem ok85:FOk Tryz.prog T 85 (kL T cV):=by
 refine fok (env:=envL [(20,cr),(52,spJoin),(128, { pre:=fun _=>False,res:=fun _=>.none }),(129,qq),(85, { pre:=fun _=>False,res:=fun _=>.none })]) (N:=69) tabT (aa ok20 (aa ok52 (aa okF128 (aa ok129 (aa okF85 ae))))) mixed Tryz.func85 rfl Tryz.call85 Tryz.ntmps85 ?_
 rintro args ⟨a,wa,hg,rfl⟩ hwf
 refine ⟨by simp,?_⟩
 rw [Tryz.results85]
 clear hwf
 have hgk:=hg.2.1
 obtain ⟨d0,r0,rfl,w0,wa⟩:=wa.cons'
 obtain ⟨d1,r1,rfl,w1,wa⟩:=wa.cons'
 obtain ⟨d2,r2,rfl,w2,wa⟩:=wa.cons'
 obtain ⟨d3,r3,rfl,w3,wa⟩:=wa.cons'
 obtain ⟨d4,r4,rfl,w4,wa⟩:=wa.cons'
 obtain ⟨d5,r5,rfl,w5,wa⟩:=wa.cons'
 obtain ⟨d6,r6,rfl,w6,wa⟩:=wa.cons'
 obtain rfl:=wa.nil'
 obtain ⟨n0,rfl,_⟩:=w0.int'
 obtain ⟨n1,rfl,_⟩:=w1.int'
 obtain ⟨n2,rfl,_⟩:=w2.int'
 obtain ⟨s3,rfl,_⟩:=w3.str'
 obtain ⟨l4,rfl,_⟩:=w4.sl'
 obtain ⟨l5,rfl,_⟩:=w5.sl'
 obtain ⟨l6,rfl,_⟩:=w6.sl'
 clear w0 w1 w2 w3 w4 w5 w6
 have hk:n0=1∨n0=6:=hgk
 rcases hk with rfl|rfl
 · repeat' first
    | (refine And.intro ?_ ?_)
    | (intro h;cases h)
    | (intro h;rw [h])
    | (intro h)
   all_goals first
    | exact True.intro
    | exact rfl
    | exact Or.inr rfl
    | exact ⟨_,rfl⟩
 · obtain ⟨e0,e1⟩:=hg.err rfl
   have hz:=dK n1
   repeat' first
    | (refine And.intro ?_ ?_)
    | (intro h;cases h)
    | (intro h;rw [h])
    | (intro h)
   all_goals first
    | exact True.intro
    | exact rfl
    | exact Or.inr rfl
    | exact ⟨_,e0,e1,rfl⟩
    | (show 6+(errB n1).size≤maxLen;simp only [maxLen];omega)
theorem ok51:FOk Tryz.prog T 51 (kL T cV):=by
 refine fok (env:=envL [(82,sp82),(85,(kL T cV))]) (N:=8) tabT (aa ok82 (aa ok85 ae)) mixed Tryz.func51 rfl Tryz.call51 Tryz.ntmps51 ?_
 rintro args ⟨a,wa,hg,rfl⟩ hwf
 have hv:g82 [argG cV a]=true:=(xO _ ⟨a,wa,hg.1,hg.2.1,rfl⟩).trans ((congrArg okVal (aw wa)).trans hg.2.2)
 refine ⟨by simp,?_⟩
 rw [Tryz.results51]
 clear hwf
 repeat' first
  | (refine And.intro ?_ ?_)
  | (intro h;cases h)
  | (intro h;rw [h])
  | (intro h)
 all_goals first
  | exact True.intro
  | exact rfl
  | exact Or.inr rfl
  | exact ⟨_,wa,rfl⟩
  | exact ⟨_,wa,hg,rfl⟩
  | exact absurd (show (!(g82 [argG cV a]))=true from ‹_›) (by rw [hv];decide)
theorem okF26:FOk Tryz.prog T 26 { pre:=fun _=>False,res:=fun _=>.none }:=by
 refine fok (env:=envL []) (N:=100) tabT ae mixed Tryz.func26 rfl Tryz.call26 Tryz.ntmps26 ?_
 exact fun args h=>h.elim
theorem okF60:FOk Tryz.prog T 60 { pre:=fun _=>False,res:=fun _=>.none }:=by
 refine fok (env:=envL []) (N:=7) tabT ae mixed Tryz.func60 rfl Tryz.call60 Tryz.ntmps60 ?_
 exact fun args h=>h.elim
theorem ok26:FOk Tryz.prog T 26 (kL T cV):=by
 refine fok (env:=envL [(25,sp25),(17,cr),(59,qq),(26, { pre:=fun _=>False,res:=fun _=>.none }),(60, { pre:=fun _=>False,res:=fun _=>.none }),(27,spJoin)]) (N:=100) tabT (aa ok25 (aa ok17 (aa ok59 (aa okF26 (aa okF60 (aa ok27 ae)))))) mixed Tryz.func26 rfl Tryz.call26 Tryz.ntmps26 ?_
 rintro args ⟨a,wa,hg,rfl⟩ hwf
 refine ⟨by simp,?_⟩
 rw [Tryz.results26]
 clear hwf
 have hgk:=hg.2.1
 have wr:=wa
 obtain ⟨d0,r0,rfl,w0,wa⟩:=wa.cons'
 obtain ⟨d1,r1,rfl,w1,wa⟩:=wa.cons'
 obtain ⟨d2,r2,rfl,w2,wa⟩:=wa.cons'
 obtain ⟨d3,r3,rfl,w3,wa⟩:=wa.cons'
 obtain ⟨d4,r4,rfl,w4,wa⟩:=wa.cons'
 obtain ⟨d5,r5,rfl,w5,wa⟩:=wa.cons'
 obtain ⟨d6,r6,rfl,w6,wa⟩:=wa.cons'
 obtain rfl:=wa.nil'
 obtain ⟨n0,rfl,_⟩:=w0.int'
 obtain ⟨n1,rfl,_⟩:=w1.int'
 obtain ⟨n2,rfl,_⟩:=w2.int'
 obtain ⟨s3,rfl,_⟩:=w3.str'
 obtain ⟨l4,rfl,_⟩:=w4.sl'
 obtain ⟨l5,rfl,_⟩:=w5.sl'
 obtain ⟨l6,rfl,_⟩:=w6.sl'
 clear w0 w1 w2 w3 w4 w5 w6
 have hv:svOk [argG cV [.i n0,.i n1,.i n2,.s s3,.l l4,.l l5,.l l6]]=true:=(congrArg okVal (aw wr)).trans hg.2.2
 have hk:n0=1∨n0=6:=hgk
 rcases hk with rfl|rfl
 · repeat' first
    | (refine And.intro ?_ ?_)
    | (intro h;cases h)
    | (intro h;rw [h])
    | (intro h)
   all_goals first
    | exact True.intro
    | exact rfl
    | exact Or.inr rfl
    | exact ⟨_,wr,hg.1,hg.2.1,rfl⟩
    | exact ⟨_,rfl⟩
    | exact absurd (show (!(svOk [argG cV [.i 1,.i n1,.i n2,.s s3,.l l4,.l l5,.l l6]]))=true from ‹_›) (by rw [hv];decide)
 · obtain ⟨e0,e1⟩:=hg.err rfl
   have hz:=dK n1
   repeat' first
    | (refine And.intro ?_ ?_)
    | (intro h;cases h)
    | (intro h;rw [h])
    | (intro h)
   all_goals first
    | exact True.intro
    | exact rfl
    | exact Or.inr rfl
    | exact ⟨_,wr,hg.1,hg.2.1,rfl⟩
    | exact ⟨_,e0,e1,rfl⟩
    | (show 6+(errB n1).size≤maxLen;simp only [maxLen];omega)
    | exact absurd (show (!(svOk [argG cV [.i 6,.i n1,.i n2,.s s3,.l l4,.l l5,.l l6]]))=true from ‹_›) (by rw [hv];decide)
end Go.Proofs.YtcllpknipmcolaaGreatDoor.Ab
