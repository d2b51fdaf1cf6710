/- Functions of formats, exactly: printed by a program of this claim. Values of a number's and of an error's kind, written: printed by a program of this claim. -/
import Derived.Test.YtppgalpldaibhaaGreatDoorCQa
import Derived.Test.YtppgalpldaibhaaGreatDoorCVc
import Derived.Test.YtppgalpldaibhaaGreatDoorCSh
namespace Go.Proofs.YtppgalpldaibhaaGreatDoor.Ab
open Go.RowKit
set_option linter.unusedVariables false
set_option linter.unusedSimpArgs false
set_option maxRecDepth 100000
set_option maxHeartbeats 1000000
theorem tab_pow {w:World} {X:Nat→Prop} (h:GlR T w X):Lib.TabIs Tryz.prog w "internal/strconv.uint64pow10" .u64 Lib.pow10Tab :=
  tabIs_of (g:=3) (by kernel_rfl) (show (3,Lib.pow10Tab.map fun z=>(CT.i .u64,D.i z)) ∈ T.gl from List.mem_cons_of_mem _ (by
    have:(Lib.pow10Tab.map fun z=>(CT.i .u64,D.i z))=[(.i .u64,.i 1),(.i .u64,.i 10),(.i .u64,.i 100),(.i .u64,.i 1000),(.i .u64,.i 10000),(.i .u64,.i 100000),(.i .u64,.i 1000000),(.i .u64,.i 10000000),(.i .u64,.i 100000000),(.i .u64,.i 1000000000),(.i .u64,.i 10000000000),(.i .u64,.i 100000000000),(.i .u64,.i 1000000000000),(.i .u64,.i 10000000000000),(.i .u64,.i 100000000000000),(.i .u64,.i 1000000000000000),(.i .u64,.i 10000000000000000),(.i .u64,.i 100000000000000000),(.i .u64,.i 1000000000000000000),(.i .u64,.i 10000000000000000000)]:=by kernel_rfl
    rw [this]
    exact List.mem_cons_self ..)) h
theorem ok149:FOk Tryz.prog T 149 spItoa:=itoa_ok Tryz.call149 tab_pow fun n h0 h1 w htab=>(Tryz.strconv_Itoa n h0 h1 w htab).mono fun e w' ⟨he,k,os,hw⟩=>⟨he,hw ▸ Lib.below_grow w.heap.size w (Nat.le_refl _) k os⟩
theorem ok150:FOk Tryz.prog T 150 spJoin:=join_ok (show T 9=some _ from rfl) rfl Tryz.call150 Tryz.strings_Join_none Tryz.strings_Join
theorem ok243:FOk Tryz.prog T 243 (spHex 5):=hex_ok (show T 5=some _ from rfl) rfl Tryz.call243 Tryz.hex_EncodeToString_bytes
theorem ok74:FOk Tryz.prog T 74 spItoa:=by
  refine fok (env:=envL [(149,spItoa)]) (N:=5) tabT (envL_cons ok149 envL_nil) mixed Tryz.func74 rfl Tryz.call74 Tryz.ntmps74 ?_
  rintro args ⟨x,rfl⟩ hwf
  refine ⟨by simp,?_⟩
  rw [Tryz.results74]
  repeat' first
    | (refine And.intro ?_ ?_)
    | (intro h;cases h)
    | (intro h;rw [h])
    | (intro h)
  all_goals first
    | (show lowEdges _=true;kernel_rfl)|(show logOk _ _=true;kernel_rfl)|exact True.intro|exact rfl|exact Or.inr rfl|exact Or.inl rfl
    | exact ⟨_,rfl⟩
    | rfl
theorem ok77:FOk Tryz.prog T 77 spJoin:=by
  refine fok (env:=envL [(150,spJoin)]) (N:=8) tabT (envL_cons ok150 envL_nil) mixed Tryz.func77 rfl Tryz.call77 Tryz.ntmps77 ?_
  rintro args ⟨rows,sep,hn,hl,rfl⟩ hwf
  refine ⟨by simp,?_⟩
  rw [Tryz.results77]
  repeat' first
    | (refine And.intro ?_ ?_)
    | (intro h;cases h)
    | (intro h;rw [h])
    | (intro h)
  all_goals first
    | (show lowEdges _=true;kernel_rfl)|(show logOk _ _=true;kernel_rfl)|exact True.intro|exact rfl|exact Or.inr rfl|exact Or.inl rfl
    | exact ⟨_,_,hn,hl,rfl⟩
    | rfl
theorem ok194:FOk Tryz.prog T 194 spEnc:=by
  refine fok (env:=envL [(243,(spHex 5))]) (N:=8) tabT (envL_cons ok243 envL_nil) mixed Tryz.func194 rfl Tryz.call194 Tryz.ntmps194 ?_
  rintro args ⟨s,hs,rfl⟩ hwf
  refine ⟨by simp,?_⟩
  rw [Tryz.results194]
  repeat' first
    | (refine And.intro ?_ ?_)
    | (intro h;cases h)
    | (intro h;rw [h])
    | (intro h)
  all_goals first
    | (show lowEdges _=true;kernel_rfl)|(show logOk _ _=true;kernel_rfl)|exact True.intro|exact rfl|exact Or.inr rfl|exact Or.inl rfl
    | exact resS (encB_no (str_is ‹_›)).symm
    | exact ⟨s,str_isnt ‹_›,hs,rfl⟩
    | exact resS ((by rw [bytesOf_bytesD]:_=_).trans (encB_yes (str_isnt ‹_›)).symm)
theorem ok117:FOk Tryz.prog T 117 spItoa:=by
  refine fok (env:=envL []) (N:=31) tabT envL_nil mixed Tryz.func117 rfl Tryz.call117 Tryz.ntmps117 ?_
  rintro args ⟨x,rfl⟩ hwf
  have hx:inK .i64 x:=arg0 hwf (List.mem_singleton_self _)
  clear hwf
  refine ⟨by simp,?_⟩
  rw [Tryz.results117]
  repeat' first
    | (refine And.intro ?_ ?_)
    | (intro h;cases h)
    | (intro h;rw [h])
    | (intro h)
  all_goals first
    | (show lowEdges _=true;kernel_rfl)|(show logOk _ _=true;kernel_rfl)|exact True.intro|exact rfl|exact Or.inr rfl|exact Or.inl rfl
    | (have h0:x=0:=by simpa using ‹(x == 0)=true›
       subst h0
       exact resS itoa_zero)
    | skip
  have h0:x ≠ 0:=by simpa using ‹(x == 0)=false›
  refine awp_loop (Q:=_) [0,3,4] [] (fun n q=>∃ (y:Int) (o:ByteArray),q=([.val false [.i .i64 y],.val false [.b (decide (x < 0))],.val false [.s o]],[])∧FI x y o∧n=y.natAbs) ?_ ?_
  · exact ⟨rfl,_,x,_,rfl,FI.first h0,rfl⟩
  rintro n q ⟨y,o,rfl,hI,hn⟩
  have hsz:=hI.size hx
  have hmod:=tmod10_inK y
  repeat' first
    | (refine And.intro ?_ ?_)
    | (intro h;cases h)
    | (intro h;rw [h])
    | (intro h)
  all_goals first
    | (show lowEdges _=true;kernel_rfl)|(show logOk _ _=true;kernel_rfl)|exact True.intro|exact rfl|exact Or.inr rfl|exact Or.inl rfl
    | exact hmod.1
    | exact hmod.2
    | exact size_le rfl hsz
    | decide
    | exact resS (hI.neg (by simpa using ‹(y != 0)=false›) (of_decide_eq_true ‹decide (x < 0)=true›))
    | exact resS (hI.pos (by simpa using ‹(y != 0)=false›) (of_decide_eq_false ‹decide (x < 0)=false›))
    | (have hy:y ≠ 0:=by simpa using ‹(y != 0)=true›
       have hlt:(y.tdiv 10).natAbs < y.natAbs:=by rw [tdiv10];omega
       first
         | exact ⟨(y.tdiv 10).natAbs,by omega,y.tdiv 10,_,snapS (fun z s=>([.val false [.i .i64 z],.val false [.b (decide (x < 0))],.val false [.s s]],[])) _ (hI.quo hx),hI.next hy (hI.dig1 (of_decide_eq_false ‹decide (y.tmod 10 < 0)=false›)),rfl⟩
         | exact ⟨(y.tdiv 10).natAbs,by omega,y.tdiv 10,_,snapS (fun z s=>([.val false [.i .i64 z],.val false [.b (decide (x < 0))],.val false [.s s]],[])) _ (hI.quo hx),hI.next hy (hI.dig2 (of_decide_eq_true ‹decide (y.tmod 10 < 0)=true›)),rfl⟩)
theorem ok140:FOk Tryz.prog T 140 spEnc:=by
  refine fok (env:=envL []) (N:=34) tabT envL_nil mixed Tryz.func140 rfl Tryz.call140 Tryz.ntmps140 ?_
  rintro args ⟨s,hs,rfl⟩ hwf
  have la:s.size≤maxLen:=arg0 hwf (List.mem_singleton_self _)
  clear hwf
  refine ⟨by simp,?_⟩
  rw [Tryz.results140]
  repeat' first
    | (refine And.intro ?_ ?_)
    | (intro h;cases h)
    | (intro h;rw [h])
    | (intro h)
  all_goals first
    | (show lowEdges _=true;kernel_rfl)|(show logOk _ _=true;kernel_rfl)|exact True.intro|exact rfl|exact Or.inr rfl|exact Or.inl rfl
    | exact resS (encB_no (str_is ‹_›)).symm
    | (simp only [maxLen];omega)
    | skip
  have hne:=str_isnt ‹_›
  refine awp_loop (Q:=_) [0,3,4,5] [] (fun n q=>∃ i:Int,q=([.val false [.s s],.val false [.s DIG],.val false [.sl true 5 (encRows s i.toNat)],.val false [.i .i64 i]],[])∧0≤i∧i≤s.size∧n=s.size - i.toNat) ?_ ?_
  · exact ⟨rfl,s.size - 0,0,rfl,by omega,by omega,rfl⟩
  rintro n q ⟨i,rfl,h1,h2,h3⟩
  have hln:=encRows_length s i.toNat
  have hhi:=hiD_range (s.data.getD i.toNat 0)
  have hlo:=loD_range (s.data.getD i.toNat 0)
  repeat' first
    | (refine And.intro ?_ ?_)
    | (intro h;cases h)
    | (intro h;rw [h])
    | (intro h)
  all_goals first
    | (show lowEdges _=true;kernel_rfl)|(show logOk _ _=true;kernel_rfl)|exact True.intro|exact rfl|exact Or.inr rfl|exact Or.inl rfl
    | omega
    | exact of_decide_eq_true ‹_›
    | exact hhi.1
    | exact hhi.2
    | exact hlo.1
    | exact hlo.2
    | decide
    | (have hi:¬ i < (s.size:Int):=of_decide_eq_false ‹decide (i < (s.size:Int))=false›
       exact resS (encRows_all (by omega) hne))
    | (have hi:i < (s.size:Int):=of_decide_eq_true ‹decide (i < (s.size:Int))=true›
       first
         | (show (encRows s i.toNat).length+2≤maxLen;simp only [maxLen];omega)
         | (show ((encRows s i.toNat).length+2) * 1≤140737488355328;omega)
         | exact ⟨s.size - (i+1).toNat,by omega,i+1,snapR (fun r z=>([.val false [.s s],.val false [.s DIG],.val false [.sl true 5 r],.val false [.i .i64 z]],[])) ((encRows_next (by omega)).trans (congrArg (encRows s) (by omega))) (wrap_next h1 hi la),by omega,by omega,rfl⟩
         | (have:=loD_inK (s.data.getD i.toNat 0);exact this.1)
         | (have:=loD_inK (s.data.getD i.toNat 0);exact this.2))
theorem ok141:FOk Tryz.prog T 141 spJoin:=by
  refine fok (env:=envL []) (N:=27) tabT envL_nil mixed Tryz.func141 rfl Tryz.call141 Tryz.ntmps141 ?_
  rintro args ⟨rows,sep,hn,hl,rfl⟩ hwf
  have wa:WfD T (.l 9) (.l rows):=arg0 hwf (List.mem_singleton_self _)
  have la:=wa.len
  clear hwf
  have hl' : (jn rows sep rows.length).length≤140737488355328:=by
    rw [← jn_all] at hl
    have:(⟨(jn rows sep rows.length).toArray⟩:ByteArray).size=(jn rows sep rows.length).length:=List.size_toArray
    omega
  refine ⟨by simp,?_⟩
  rw [Tryz.results141]
  repeat' first
    | (refine And.intro ?_ ?_)
    | (intro h;cases h)
    | (intro h;rw [h])
    | (intro h)
  all_goals first
    | (show lowEdges _=true;kernel_rfl)|(show logOk _ _=true;kernel_rfl)|exact True.intro|exact rfl|exact Or.inr rfl|exact Or.inl rfl
    | (simp only [maxLen];omega)
    | skip
  refine awp_loop (Q:=_) [0,1,5,6] [] (fun n q=>∃ i:Int,q=([argS 9 rows,.val false [.s sep],.val false [.sl true 5 (byteRows (jn rows sep i.toNat))],.val false [.i .i64 i]],[])∧0≤i∧i≤rows.length∧n=rows.length - i.toNat) ?_ ?_
  · exact ⟨rfl,rows.length - 0,0,rfl,by omega,by omega,rfl⟩
  rintro n q ⟨i,rfl,h1,h2,h3⟩
  repeat' first
    | (refine And.intro ?_ ?_)
    | (intro h;cases h)
    | (intro h;rw [h])
    | (intro h)
  all_goals first
    | (show lowEdges _=true;kernel_rfl)|(show logOk _ _=true;kernel_rfl)|exact True.intro|exact rfl|exact Or.inr rfl|exact Or.inl rfl
    | omega
    | exact of_decide_eq_true ‹_›
    | (have hi:¬ i < (rows.length:Int):=of_decide_eq_false ‹decide (i < (rows.length:Int))=false›
       have e:i.toNat=rows.length:=by omega
       exact resS (by rw [bytesOf_byteRows,e];exact jn_all rows sep))
    | (have hi:i < (rows.length:Int):=of_decide_eq_true ‹decide (i < (rows.length:Int))=true›
       have hnx:=jn_next (rows:=rows) (sep:=sep) (k:=i.toNat) (by omega)
       have hle:=jn_le (rows:=rows) (sep:=sep) (j:=i.toNat+1) (k:=rows.length - (i.toNat+1)) (by omega)
       have e1:(i+1).toNat=i.toNat+1:=by omega
       first
         | (have hz:i > 0:=of_decide_eq_true ‹decide (i > 0)=true›
            rw [if_neg (by omega)] at hnx
            have hl3:=congrArg List.length hnx
            simp only [List.length_append] at hl3
            first
              | (simp only [List.length_append,byteRows_length,bytesD_eq,maxLen] at *;omega)
              | exact ⟨rows.length - (i+1).toNat,by omega,i+1,snapR (fun r z=>([argS 9 rows,.val false [.s sep],.val false [.sl true 5 r],.val false [.i .i64 z]],[])) (by rw [e1,hnx,byteRows_append,byteRows_append, ← List.append_assoc];rfl) (wrap_next h1 hi la),by omega,by omega,rfl⟩)
         | (have hz:¬ i > 0:=of_decide_eq_false ‹decide (i > 0)=false›
            rw [if_pos (by omega)] at hnx
            have h0:i.toNat=0:=by omega
            have hb0:byteRows (jn rows sep i.toNat)=[]:=by rw [h0];rfl
            have hl3:=congrArg List.length hnx
            first
              | (simp only [hb0,List.length_nil,List.length_append,byteRows_length,bytesD_eq,maxLen] at *;omega)
              | exact ⟨rows.length - (i+1).toNat,by omega,i+1,snapR (fun r z=>([argS 9 rows,.val false [.s sep],.val false [.sl true 5 r],.val false [.i .i64 z]],[])) (by rw [hb0,e1,hnx];rfl) (wrap_next h1 hi la),by omega,by omega,rfl⟩))
theorem ok231:FOk Tryz.prog T 231 spErrs:=by
  refine fok (env:=envL []) (N:=2) tabT envL_nil mixed Tryz.func231 rfl Tryz.call231 Tryz.ntmps231 ?_
  rintro args rfl hwf
  refine ⟨by simp,?_⟩
  rw [Tryz.results231]
  repeat' first
    | (refine And.intro ?_ ?_)
    | (intro h;cases h)
    | (intro h;rw [h])
    | (intro h)
  all_goals first
    | (show lowEdges _=true;kernel_rfl)|(show logOk _ _=true;kernel_rfl)|exact True.intro|exact rfl|exact Or.inr rfl|exact Or.inl rfl
    | omega
    | decide
    | rfl
theorem ok158:FOk Tryz.prog T 158 spErr:=by
  refine fok (env:=envL [(84,spIn),(231,spErrs)]) (N:=10) tabT (envL_cons ok84 (envL_cons ok231 envL_nil)) mixed Tryz.func158 rfl Tryz.call158 Tryz.ntmps158 ?_
  rintro args ⟨x,h0,h1,rfl⟩ hwf
  refine ⟨by simp,?_⟩
  rw [Tryz.results158]
  repeat' first
    | (refine And.intro ?_ ?_)
    | (intro h;cases h)
    | (intro h;rw [h])
    | (intro h)
  all_goals first
    | (show lowEdges _=true;kernel_rfl)|(show logOk _ _=true;kernel_rfl)|exact True.intro|exact rfl|exact Or.inr rfl|exact Or.inl rfl
    | exact rfl
    | exact ⟨_,_,_,rfl⟩
    | (exfalso;simp_all [inR];done)
    | (exfalso;simp_all [inR];omega)
    | exact resS (errs_at h0 h1)
    | omega
    | (show x < 9;omega)
    | (show (x.toNat:Nat) < 9;omega)
theorem ok75:FOk Tryz.prog T 75 spErr:=by
  refine fok (env:=envL [(132,spIn)]) (N:=11) tabT (envL_cons ok132 envL_nil) mixed Tryz.func75 rfl Tryz.call75 Tryz.ntmps75 ?_
  rintro args ⟨x,h0,h1,rfl⟩ hwf
  refine ⟨by simp,?_⟩
  rw [Tryz.results75]
  repeat' first
    | (refine And.intro ?_ ?_)
    | (intro h;cases h)
    | (intro h;rw [h])
    | (intro h)
  all_goals first
    | (show lowEdges _=true;kernel_rfl)|(show logOk _ _=true;kernel_rfl)|exact True.intro|exact rfl|exact Or.inr rfl|exact Or.inl rfl
    | exact ⟨_,_,_,rfl⟩
    | (exfalso;simp_all [inR];done)
    | (exfalso;simp_all [inR];omega)
    | exact resS (errs_at' h0 h1)
    | (rw [IntKind.wrap_i64];omega)
    | (show IntKind.i64.wrap (x - 1) < 8;rw [IntKind.wrap_i64];omega)
    | (show (IntKind.i64.wrap (x - 1)).toNat < 8;rw [IntKind.wrap_i64];omega)
theorem okF146:FOk Tryz.prog T 146 { pre:=fun _=>False,res:=fun _=>.none }:=by
  refine fok (env:=envL []) (N:=29) tabT envL_nil mixed Tryz.func146 rfl Tryz.call146 Tryz.ntmps146 ?_
  exact fun args h=>h.elim
theorem okF147:FOk Tryz.prog T 147 { pre:=fun _=>False,res:=fun _=>.none }:=by
  refine fok (env:=envL []) (N:=77) tabT envL_nil mixed Tryz.func147 rfl Tryz.call147 Tryz.ntmps147 ?_
  exact fun args h=>h.elim
theorem okF73:FOk Tryz.prog T 73 { pre:=fun _=>False,res:=fun _=>.none }:=by
  refine fok (env:=envL []) (N:=185) tabT envL_nil mixed Tryz.func73 rfl Tryz.call73 Tryz.ntmps73 ?_
  exact fun args h=>h.elim
theorem okF148:FOk Tryz.prog T 148 { pre:=fun _=>False,res:=fun _=>.none }:=by
  refine fok (env:=envL []) (N:=20) tabT envL_nil mixed Tryz.func148 rfl Tryz.call148 Tryz.ntmps148 ?_
  exact fun args h=>h.elim
noncomputable def sp73:FSpec:={ pre:=fun args=>∃ a:List D,WfRow T [.i .i64,.i .i64,.i .i64,.s,.l 33,.l 9,.l 91] a∧(a.getD 5 default).rows.length+(a.getD 6 default).rows.length≤4611686018427387904∧((a.getD 0 default).int=1∨(a.getD 0 default).int=6)∧args=[argG [.i .i64,.i .i64,.i .i64,.s,.l 33,.l 9,.l 91] a],res:=fun args=>.val false [.b (svOk args)] }
theorem ok73:FOk Tryz.prog T 73 sp73:=by
  refine fok (env:=envL [(145,spNum),(146, { pre:=fun _=>False,res:=fun _=>.none }),(132,spIn),(147, { pre:=fun _=>False,res:=fun _=>.none }),(73, { pre:=fun _=>False,res:=fun _=>.none }),(148, { pre:=fun _=>False,res:=fun _=>.none })]) (N:=185) tabT (envL_cons ok145 (envL_cons okF146 (envL_cons ok132 (envL_cons okF147 (envL_cons okF73 (envL_cons okF148 envL_nil)))))) mixed Tryz.func73 rfl Tryz.call73 Tryz.ntmps73 ?_
  rintro args ⟨a,wa,hl,hk,rfl⟩ hwf
  refine ⟨by simp,?_⟩
  rw [Tryz.results73]
  clear hwf
  obtain ⟨d0,r0,rfl,w0,wa⟩:=wa.cons'
  obtain ⟨d1,r1,rfl,w1,wa⟩:=wa.cons'
  obtain ⟨d2,r2,rfl,w2,wa⟩:=wa.cons'
  obtain ⟨d3,r3,rfl,w3,wa⟩:=wa.cons'
  obtain ⟨d4,r4,rfl,w4,wa⟩:=wa.cons'
  obtain ⟨d5,r5,rfl,w5,wa⟩:=wa.cons'
  obtain ⟨d6,r6,rfl,w6,wa⟩:=wa.cons'
  obtain rfl:=wa.nil'
  obtain ⟨n0,rfl,_⟩:=w0.int'
  obtain ⟨n1,rfl,_⟩:=w1.int'
  obtain ⟨n2,rfl,_⟩:=w2.int'
  obtain ⟨s3,rfl,_⟩:=w3.str'
  obtain ⟨l4,rfl,_⟩:=w4.sl'
  obtain ⟨l5,rfl,_⟩:=w5.sl'
  obtain ⟨l6,rfl,_⟩:=w6.sl'
  clear w0 w1 w2 w3 w4 w5 w6
  have hl:l5.length+l6.length≤4611686018427387904:=hl
  have hk:n0=1∨n0=6:=hk
  rcases hk with rfl|rfl
  all_goals
    repeat' first
      | (refine And.intro ?_ ?_)
      | (intro h;cases h)
      | (intro h;rw [h])
      | (intro h)
  all_goals first
    | (show lowEdges _=true;kernel_rfl)|(show logOk _ _=true;kernel_rfl)|exact True.intro|exact rfl|exact Or.inr rfl|exact Or.inl rfl
    | exact ⟨_,rfl⟩
    | exact ⟨_,_,_,rfl⟩
    | (refine resB ?_;show _=okVal [_,_,_,_,_,_,_];simp_all [okVal,inR,CV.d,ofD,IntKind.wrap_i64,List.getD_cons_succ,List.getD_cons_zero,D.int,D.rows,D.str];done)
    | (refine resB ?_;show _=okVal [_,_,_,_,_,_,_];simp_all [okVal,inR,CV.d,ofD,IntKind.wrap_i64,List.getD_cons_succ,List.getD_cons_zero,D.int,D.rows,D.str];simp only [← List.length_eq_zero_iff] at *;intros;omega)
theorem okF157:FOk Tryz.prog T 157 { pre:=fun _=>False,res:=fun _=>.none }:=by
  refine fok (env:=envL []) (N:=48) tabT envL_nil mixed Tryz.func157 rfl Tryz.call157 Tryz.ntmps157 ?_
  exact fun args h=>h.elim
theorem okF79:FOk Tryz.prog T 79 { pre:=fun _=>False,res:=fun _=>.none }:=by
  refine fok (env:=envL []) (N:=69) tabT envL_nil mixed Tryz.func79 rfl Tryz.call79 Tryz.ntmps79 ?_
  exact fun args h=>h.elim
theorem ok79:FOk Tryz.prog T 79 (spText T [.i .i64,.i .i64,.i .i64,.s,.l 33,.l 9,.l 91]):=by
  refine fok (env:=envL [(117,spItoa),(141,spJoin),(157, { pre:=fun _=>False,res:=fun _=>.none }),(158,spErr),(79, { pre:=fun _=>False,res:=fun _=>.none })]) (N:=69) tabT (envL_cons ok117 (envL_cons ok141 (envL_cons okF157 (envL_cons ok158 (envL_cons okF79 envL_nil))))) mixed Tryz.func79 rfl Tryz.call79 Tryz.ntmps79 ?_
  rintro args ⟨a,wa,hg,rfl⟩ hwf
  refine ⟨by simp,?_⟩
  rw [Tryz.results79]
  clear hwf
  have hgk:=hg.2.1
  obtain ⟨d0,r0,rfl,w0,wa⟩:=wa.cons'
  obtain ⟨d1,r1,rfl,w1,wa⟩:=wa.cons'
  obtain ⟨d2,r2,rfl,w2,wa⟩:=wa.cons'
  obtain ⟨d3,r3,rfl,w3,wa⟩:=wa.cons'
  obtain ⟨d4,r4,rfl,w4,wa⟩:=wa.cons'
  obtain ⟨d5,r5,rfl,w5,wa⟩:=wa.cons'
  obtain ⟨d6,r6,rfl,w6,wa⟩:=wa.cons'
  obtain rfl:=wa.nil'
  obtain ⟨n0,rfl,_⟩:=w0.int'
  obtain ⟨n1,rfl,_⟩:=w1.int'
  obtain ⟨n2,rfl,_⟩:=w2.int'
  obtain ⟨s3,rfl,_⟩:=w3.str'
  obtain ⟨l4,rfl,_⟩:=w4.sl'
  obtain ⟨l5,rfl,_⟩:=w5.sl'
  obtain ⟨l6,rfl,_⟩:=w6.sl'
  clear w0 w1 w2 w3 w4 w5 w6
  have hk:n0=1∨n0=6:=hgk
  rcases hk with rfl|rfl
  · repeat' first
      | (refine And.intro ?_ ?_)
      | (intro h;cases h)
      | (intro h;rw [h])
      | (intro h)
    all_goals first
      | (show lowEdges _=true;kernel_rfl)|(show logOk _ _=true;kernel_rfl)|exact True.intro|exact rfl|exact Or.inr rfl|exact Or.inl rfl
      | exact ⟨_,rfl⟩
      | exact resS (fmt_num (a:=[.i 1,.i n1,.i n2,.s s3,.l l4,.l l5,.l l6]) rfl).symm
  · obtain ⟨e0,e1⟩:=hg.err rfl
    have hz:=errB_size n1
    repeat' first
      | (refine And.intro ?_ ?_)
      | (intro h;cases h)
      | (intro h;rw [h])
      | (intro h)
    all_goals first
      | (show lowEdges _=true;kernel_rfl)|(show logOk _ _=true;kernel_rfl)|exact True.intro|exact rfl|exact Or.inr rfl|exact Or.inl rfl
      | exact ⟨_,e0,e1,rfl⟩
      | exact resS (fmt_err (a:=[.i 6,.i n1,.i n2,.s s3,.l l4,.l l5,.l l6]) rfl).symm
      | (show 6+(errB n1).size≤maxLen;simp only [maxLen];omega)
theorem ok22:FOk Tryz.prog T 22 (spText T [.i .i64,.i .i64,.i .i64,.s,.l 33,.l 9,.l 91]):=by
  refine fok (env:=envL [(23,sp23),(79,(spText T [.i .i64,.i .i64,.i .i64,.s,.l 33,.l 9,.l 91]))]) (N:=8) tabT (envL_cons ok23 (envL_cons ok79 envL_nil)) mixed Tryz.func22 rfl Tryz.call22 Tryz.ntmps22 ?_
  rintro args ⟨a,wa,hg,rfl⟩ hwf
  have hv:g23 [argG [.i .i64,.i .i64,.i .i64,.s,.l 33,.l 9,.l 91] a]=true:=(val23 _ ⟨a,wa,hg.1,hg.2.1,rfl⟩).trans ((congrArg okVal (csD_rowC wa)).trans hg.2.2)
  refine ⟨by simp,?_⟩
  rw [Tryz.results22]
  clear hwf
  repeat' first
    | (refine And.intro ?_ ?_)
    | (intro h;cases h)
    | (intro h;rw [h])
    | (intro h)
  all_goals first
    | (show lowEdges _=true;kernel_rfl)|(show logOk _ _=true;kernel_rfl)|exact True.intro|exact rfl|exact Or.inr rfl|exact Or.inl rfl
    | exact ⟨_,wa,rfl⟩
    | exact ⟨_,wa,hg,rfl⟩
    | rfl
    | exact absurd (show (!(g23 [argG [.i .i64,.i .i64,.i .i64,.s,.l 33,.l 9,.l 91] a]))=true from ‹_›) (by rw [hv];decide)
theorem okF20:FOk Tryz.prog T 20 { pre:=fun _=>False,res:=fun _=>.none }:=by
  refine fok (env:=envL []) (N:=100) tabT envL_nil mixed Tryz.func20 rfl Tryz.call20 Tryz.ntmps20 ?_
  exact fun args h=>h.elim
theorem okF76:FOk Tryz.prog T 76 { pre:=fun _=>False,res:=fun _=>.none }:=by
  refine fok (env:=envL []) (N:=7) tabT envL_nil mixed Tryz.func76 rfl Tryz.call76 Tryz.ntmps76 ?_
  exact fun args h=>h.elim
theorem ok20:FOk Tryz.prog T 20 (spText T [.i .i64,.i .i64,.i .i64,.s,.l 33,.l 9,.l 91]):=by
  refine fok (env:=envL [(73,sp73),(74,spItoa),(75,spErr),(20, { pre:=fun _=>False,res:=fun _=>.none }),(76, { pre:=fun _=>False,res:=fun _=>.none }),(77,spJoin)]) (N:=100) tabT (envL_cons ok73 (envL_cons ok74 (envL_cons ok75 (envL_cons okF20 (envL_cons okF76 (envL_cons ok77 envL_nil)))))) mixed Tryz.func20 rfl Tryz.call20 Tryz.ntmps20 ?_
  rintro args ⟨a,wa,hg,rfl⟩ hwf
  refine ⟨by simp,?_⟩
  rw [Tryz.results20]
  clear hwf
  have hgk:=hg.2.1
  have wr:=wa
  obtain ⟨d0,r0,rfl,w0,wa⟩:=wa.cons'
  obtain ⟨d1,r1,rfl,w1,wa⟩:=wa.cons'
  obtain ⟨d2,r2,rfl,w2,wa⟩:=wa.cons'
  obtain ⟨d3,r3,rfl,w3,wa⟩:=wa.cons'
  obtain ⟨d4,r4,rfl,w4,wa⟩:=wa.cons'
  obtain ⟨d5,r5,rfl,w5,wa⟩:=wa.cons'
  obtain ⟨d6,r6,rfl,w6,wa⟩:=wa.cons'
  obtain rfl:=wa.nil'
  obtain ⟨n0,rfl,_⟩:=w0.int'
  obtain ⟨n1,rfl,_⟩:=w1.int'
  obtain ⟨n2,rfl,_⟩:=w2.int'
  obtain ⟨s3,rfl,_⟩:=w3.str'
  obtain ⟨l4,rfl,_⟩:=w4.sl'
  obtain ⟨l5,rfl,_⟩:=w5.sl'
  obtain ⟨l6,rfl,_⟩:=w6.sl'
  clear w0 w1 w2 w3 w4 w5 w6
  have hv:svOk [argG [.i .i64,.i .i64,.i .i64,.s,.l 33,.l 9,.l 91] [.i n0,.i n1,.i n2,.s s3,.l l4,.l l5,.l l6]]=true:=(congrArg okVal (csD_rowC wr)).trans hg.2.2
  have hk:n0=1∨n0=6:=hgk
  rcases hk with rfl|rfl
  · repeat' first
      | (refine And.intro ?_ ?_)
      | (intro h;cases h)
      | (intro h;rw [h])
      | (intro h)
    all_goals first
      | (show lowEdges _=true;kernel_rfl)|(show logOk _ _=true;kernel_rfl)|exact True.intro|exact rfl|exact Or.inr rfl|exact Or.inl rfl
      | exact ⟨_,wr,hg.1,hg.2.1,rfl⟩
      | exact ⟨_,rfl⟩
      | exact resS (fmt_num (a:=[.i 1,.i n1,.i n2,.s s3,.l l4,.l l5,.l l6]) rfl).symm
      | exact absurd (show (!(svOk [argG [.i .i64,.i .i64,.i .i64,.s,.l 33,.l 9,.l 91] [.i 1,.i n1,.i n2,.s s3,.l l4,.l l5,.l l6]]))=true from ‹_›) (by rw [hv];decide)
  · obtain ⟨e0,e1⟩:=hg.err rfl
    have hz:=errB_size n1
    repeat' first
      | (refine And.intro ?_ ?_)
      | (intro h;cases h)
      | (intro h;rw [h])
      | (intro h)
    all_goals first
      | (show lowEdges _=true;kernel_rfl)|(show logOk _ _=true;kernel_rfl)|exact True.intro|exact rfl|exact Or.inr rfl|exact Or.inl rfl
      | exact ⟨_,wr,hg.1,hg.2.1,rfl⟩
      | exact ⟨_,e0,e1,rfl⟩
      | exact resS (fmt_err (a:=[.i 6,.i n1,.i n2,.s s3,.l l4,.l l5,.l l6]) rfl).symm
      | (show 6+(errB n1).size≤maxLen;simp only [maxLen];omega)
      | exact absurd (show (!(svOk [argG [.i .i64,.i .i64,.i .i64,.s,.l 33,.l 9,.l 91] [.i 6,.i n1,.i n2,.s s3,.l l4,.l l5,.l l6]]))=true from ‹_›) (by rw [hv];decide)
end Go.Proofs.YtppgalpldaibhaaGreatDoor.Ab
