/- Functions of formats, exactly: printed by a program of this -/
import Derived.Test.YtkpnfbdoaljkpaaGreatDoorDQa
import Derived.Test.YtkpnfbdoaljkpaaGreatDoorDVc
import Derived.Test.YtkpnfbdoaljkpaaGreatDoorDSh
namespace Go.Proofs.YtkpnfbdoaljkpaaGreatDoor.Ab
open Go.RowKit
set_option linter.unusedVariables false
set_option linter.unusedSimpArgs false
set_option maxRecDepth 100000
set_option maxHeartbeats 1000000
theorem tab_pow {w:World} {X:Nat→Prop} (h:GlR T w X):Lib.TabIs Tryz.prog w "internal/strconv.uint64pow10" .u64 Lib.pow10Tab :=
  tabIs_of (g:=5) (by kernel_rfl) (show (5,Lib.pow10Tab.map fun z=>(CT.i .u64,D.i z)) ∈ T.gl from List.mem_cons_of_mem _ (by
    have:(Lib.pow10Tab.map fun z=>(CT.i .u64,D.i z))=[(.i .u64,.i 1),(.i .u64,.i 10),(.i .u64,.i 100),(.i .u64,.i 1000),(.i .u64,.i 10000),(.i .u64,.i 100000),(.i .u64,.i 1000000),(.i .u64,.i 10000000),(.i .u64,.i 100000000),(.i .u64,.i 1000000000),(.i .u64,.i 10000000000),(.i .u64,.i 100000000000),(.i .u64,.i 1000000000000),(.i .u64,.i 10000000000000),(.i .u64,.i 100000000000000),(.i .u64,.i 1000000000000000),(.i .u64,.i 10000000000000000),(.i .u64,.i 100000000000000000),(.i .u64,.i 1000000000000000000),(.i .u64,.i 10000000000000000000)]:=by kernel_rfl
    rw [this]
    exact List.mem_cons_self ..)) h
theorem ok142:FOk Tryz.prog T 142 spItoa:=itoa_ok Tryz.call142 tab_pow fun n h0 h1 w htab=>(Tryz.strconv_Itoa n h0 h1 w htab).mono fun e w' ⟨he,k,os,hw⟩=>⟨he,hw ▸ Lib.below_grow w.heap.size w (Nat.le_refl _) k os⟩
theorem ok163:FOk Tryz.prog T 163 spJoin:=join_ok (show T 9=some _ from rfl) rfl Tryz.call163 Tryz.strings_Join_none Tryz.strings_Join
theorem ok87:FOk Tryz.prog T 87 spItoa:=by
  refine fok (env:=envL [(142,spItoa)]) (N:=5) tabT (envL_cons ok142 envL_nil) mixed Tryz.func87 rfl Tryz.call87 Tryz.ntmps87 ?_
  rintro args ⟨x,rfl⟩ hwf
  refine ⟨by simp,?_⟩
  rw [Tryz.results87]
  repeat' first
    | (refine And.intro ?_ ?_)
    | (intro h;cases h)
    | (intro h;rw [h])
    | (intro h)
  all_goals first
    | (show lowEdges _=true;kernel_rfl)|(show logOk _ _=true;kernel_rfl)|exact True.intro|exact rfl|exact Or.inr rfl|exact Or.inl rfl
    | exact ⟨_,rfl⟩
    | rfl
theorem ok115:FOk Tryz.prog T 115 spJoin:=by
  refine fok (env:=envL [(163,spJoin)]) (N:=8) tabT (envL_cons ok163 envL_nil) mixed Tryz.func115 rfl Tryz.call115 Tryz.ntmps115 ?_
  rintro args ⟨rows,sep,hn,hl,rfl⟩ hwf
  refine ⟨by simp,?_⟩
  rw [Tryz.results115]
  repeat' first
    | (refine And.intro ?_ ?_)
    | (intro h;cases h)
    | (intro h;rw [h])
    | (intro h)
  all_goals first
    | (show lowEdges _=true;kernel_rfl)|(show logOk _ _=true;kernel_rfl)|exact True.intro|exact rfl|exact Or.inr rfl|exact Or.inl rfl
    | exact ⟨_,_,hn,hl,rfl⟩
    | rfl
theorem ok89:FOk Tryz.prog T 89 spItoa:=by
  refine fok (env:=envL []) (N:=31) tabT envL_nil mixed Tryz.func89 rfl Tryz.call89 Tryz.ntmps89 ?_
  rintro args ⟨x,rfl⟩ hwf
  have hx:inK .i64 x:=arg0 hwf (List.mem_singleton_self _)
  clear hwf
  refine ⟨by simp,?_⟩
  rw [Tryz.results89]
  repeat' first
    | (refine And.intro ?_ ?_)
    | (intro h;cases h)
    | (intro h;rw [h])
    | (intro h)
  all_goals first
    | (show lowEdges _=true;kernel_rfl)|(show logOk _ _=true;kernel_rfl)|exact True.intro|exact rfl|exact Or.inr rfl|exact Or.inl rfl
    | (have h0:x=0:=by simpa using ‹(x == 0)=true›
       subst h0
       exact resS itoa_zero)
    | skip
  have h0:x ≠ 0:=by simpa using ‹(x == 0)=false›
  refine awp_loop (Q:=_) [0,3,4] [] (fun n q=>∃ (y:Int) (o:ByteArray),q=([.val false [.i .i64 y],.val false [.b (decide (x < 0))],.val false [.s o]],[])∧FI x y o∧n=y.natAbs) ?_ ?_
  · exact ⟨rfl,_,x,_,rfl,FI.first h0,rfl⟩
  rintro n q ⟨y,o,rfl,hI,hn⟩
  have hsz:=hI.size hx
  have hmod:=tmod10_inK y
  repeat' first
    | (refine And.intro ?_ ?_)
    | (intro h;cases h)
    | (intro h;rw [h])
    | (intro h)
  all_goals first
    | (show lowEdges _=true;kernel_rfl)|(show logOk _ _=true;kernel_rfl)|exact True.intro|exact rfl|exact Or.inr rfl|exact Or.inl rfl
    | exact hmod.1
    | exact hmod.2
    | exact size_le rfl hsz
    | decide
    | exact resS (hI.neg (by simpa using ‹(y != 0)=false›) (of_decide_eq_true ‹decide (x < 0)=true›))
    | exact resS (hI.pos (by simpa using ‹(y != 0)=false›) (of_decide_eq_false ‹decide (x < 0)=false›))
    | (have hy:y ≠ 0:=by simpa using ‹(y != 0)=true›
       have hlt:(y.tdiv 10).natAbs < y.natAbs:=by rw [tdiv10];omega
       first
         | exact ⟨(y.tdiv 10).natAbs,by omega,y.tdiv 10,_,snapS (fun z s=>([.val false [.i .i64 z],.val false [.b (decide (x < 0))],.val false [.s s]],[])) _ (hI.quo hx),hI.next hy (hI.dig1 (of_decide_eq_false ‹decide (y.tmod 10 < 0)=false›)),rfl⟩
         | exact ⟨(y.tdiv 10).natAbs,by omega,y.tdiv 10,_,snapS (fun z s=>([.val false [.i .i64 z],.val false [.b (decide (x < 0))],.val false [.s s]],[])) _ (hI.quo hx),hI.next hy (hI.dig2 (of_decide_eq_true ‹decide (y.tmod 10 < 0)=true›)),rfl⟩)
theorem ok124:FOk Tryz.prog T 124 spJoin:=by
  refine fok (env:=envL []) (N:=27) tabT envL_nil mixed Tryz.func124 rfl Tryz.call124 Tryz.ntmps124 ?_
  rintro args ⟨rows,sep,hn,hl,rfl⟩ hwf
  have wa:WfD T (.l 9) (.l rows):=arg0 hwf (List.mem_singleton_self _)
  have la:=wa.len
  clear hwf
  have hl' : (jn rows sep rows.length).length≤140737488355328:=by
    rw [← jn_all] at hl
    have:(⟨(jn rows sep rows.length).toArray⟩:ByteArray).size=(jn rows sep rows.length).length:=List.size_toArray
    omega
  refine ⟨by simp,?_⟩
  rw [Tryz.results124]
  repeat' first
    | (refine And.intro ?_ ?_)
    | (intro h;cases h)
    | (intro h;rw [h])
    | (intro h)
  all_goals first
    | (show lowEdges _=true;kernel_rfl)|(show logOk _ _=true;kernel_rfl)|exact True.intro|exact rfl|exact Or.inr rfl|exact Or.inl rfl
    | (simp only [maxLen];omega)
    | skip
  refine awp_loop (Q:=_) [0,1,5,6] [] (fun n q=>∃ i:Int,q=([argS 9 rows,.val false [.s sep],.val false [.sl true 5 (byteRows (jn rows sep i.toNat))],.val false [.i .i64 i]],[])∧0≤i∧i≤rows.length∧n=rows.length - i.toNat) ?_ ?_
  · exact ⟨rfl,rows.length - 0,0,rfl,by omega,by omega,rfl⟩
  rintro n q ⟨i,rfl,h1,h2,h3⟩
  repeat' first
    | (refine And.intro ?_ ?_)
    | (intro h;cases h)
    | (intro h;rw [h])
    | (intro h)
  all_goals first
    | (show lowEdges _=true;kernel_rfl)|(show logOk _ _=true;kernel_rfl)|exact True.intro|exact rfl|exact Or.inr rfl|exact Or.inl rfl
    | omega
    | exact of_decide_eq_true ‹_›
    | (have hi:¬ i < (rows.length:Int):=of_decide_eq_false ‹decide (i < (rows.length:Int))=false›
       have e:i.toNat=rows.length:=by omega
       exact resS (by rw [bytesOf_byteRows,e];exact jn_all rows sep))
    | (have hi:i < (rows.length:Int):=of_decide_eq_true ‹decide (i < (rows.length:Int))=true›
       have hnx:=jn_next (rows:=rows) (sep:=sep) (k:=i.toNat) (by omega)
       have hle:=jn_le (rows:=rows) (sep:=sep) (j:=i.toNat+1) (k:=rows.length - (i.toNat+1)) (by omega)
       have e1:(i+1).toNat=i.toNat+1:=by omega
       first
         | (have hz:i > 0:=of_decide_eq_true ‹decide (i > 0)=true›
            rw [if_neg (by omega)] at hnx
            have hl3:=congrArg List.length hnx
            simp only [List.length_append] at hl3
            first
              | (simp only [List.length_append,byteRows_length,bytesD_eq,maxLen] at *;omega)
              | exact ⟨rows.length - (i+1).toNat,by omega,i+1,snapR (fun r z=>([argS 9 rows,.val false [.s sep],.val false [.sl true 5 r],.val false [.i .i64 z]],[])) (by rw [e1,hnx,byteRows_append,byteRows_append, ← List.append_assoc];rfl) (wrap_next h1 hi la),by omega,by omega,rfl⟩)
         | (have hz:¬ i > 0:=of_decide_eq_false ‹decide (i > 0)=false›
            rw [if_pos (by omega)] at hnx
            have h0:i.toNat=0:=by omega
            have hb0:byteRows (jn rows sep i.toNat)=[]:=by rw [h0];rfl
            have hl3:=congrArg List.length hnx
            first
              | (simp only [hb0,List.length_nil,List.length_append,byteRows_length,bytesD_eq,maxLen] at *;omega)
              | exact ⟨rows.length - (i+1).toNat,by omega,i+1,snapR (fun r z=>([argS 9 rows,.val false [.s sep],.val false [.sl true 5 r],.val false [.i .i64 z]],[])) (by rw [hb0,e1,hnx];rfl) (wrap_next h1 hi la),by omega,by omega,rfl⟩))
theorem ok146:FOk Tryz.prog T 146 spErrs:=by
  refine fok (env:=envL []) (N:=2) tabT envL_nil mixed Tryz.func146 rfl Tryz.call146 Tryz.ntmps146 ?_
  rintro args rfl hwf
  refine ⟨by simp,?_⟩
  rw [Tryz.results146]
  repeat' first
    | (refine And.intro ?_ ?_)
    | (intro h;cases h)
    | (intro h;rw [h])
    | (intro h)
  all_goals first
    | (show lowEdges _=true;kernel_rfl)|(show logOk _ _=true;kernel_rfl)|exact True.intro|exact rfl|exact Or.inr rfl|exact Or.inl rfl
    | omega
    | decide
    | rfl
theorem ok152:FOk Tryz.prog T 152 spErr:=by
  refine fok (env:=envL [(49,spIn),(146,spErrs)]) (N:=10) tabT (envL_cons ok49 (envL_cons ok146 envL_nil)) mixed Tryz.func152 rfl Tryz.call152 Tryz.ntmps152 ?_
  rintro args ⟨x,h0,h1,rfl⟩ hwf
  refine ⟨by simp,?_⟩
  rw [Tryz.results152]
  repeat' first
    | (refine And.intro ?_ ?_)
    | (intro h;cases h)
    | (intro h;rw [h])
    | (intro h)
  all_goals first
    | (show lowEdges _=true;kernel_rfl)|(show logOk _ _=true;kernel_rfl)|exact True.intro|exact rfl|exact Or.inr rfl|exact Or.inl rfl
    | exact rfl
    | exact ⟨_,_,_,rfl⟩
    | (exfalso;simp_all [inR];done)
    | (exfalso;simp_all [inR];omega)
    | exact resS (errs_at h0 h1)
    | omega
    | (show x < 9;omega)
    | (show (x.toNat:Nat) < 9;omega)
theorem ok113:FOk Tryz.prog T 113 spErr:=by
  refine fok (env:=envL [(50,spIn)]) (N:=11) tabT (envL_cons ok50 envL_nil) mixed Tryz.func113 rfl Tryz.call113 Tryz.ntmps113 ?_
  rintro args ⟨x,h0,h1,rfl⟩ hwf
  refine ⟨by simp,?_⟩
  rw [Tryz.results113]
  repeat' first
    | (refine And.intro ?_ ?_)
    | (intro h;cases h)
    | (intro h;rw [h])
    | (intro h)
  all_goals first
    | (show lowEdges _=true;kernel_rfl)|(show logOk _ _=true;kernel_rfl)|exact True.intro|exact rfl|exact Or.inr rfl|exact Or.inl rfl
    | exact ⟨_,_,_,rfl⟩
    | (exfalso;simp_all [inR];done)
    | (exfalso;simp_all [inR];omega)
    | exact resS (errs_at' h0 h1)
    | (rw [IntKind.wrap_i64];omega)
    | (show IntKind.i64.wrap (x - 1) < 8;rw [IntKind.wrap_i64];omega)
    | (show (IntKind.i64.wrap (x - 1)).toNat < 8;rw [IntKind.wrap_i64];omega)
end Go.Proofs.YtkpnfbdoaljkpaaGreatDoor.Ab
