/- Functions that draw: a lent cursor over the code's bytes, results of which some facts are -/
import Derived.Test.YtkpnfbdoaljkpaaGreatDoorCPB
namespace Go.Proofs.YtkpnfbdoaljkpaaGreatDoor.Ab
open Go.RowKit
set_option linter.all false
theorem dN {P:Program} {T:Tab} {N:Nat} {α:Type} [Inhabited α] (R:List SV→α→SV) (U:List SV→α→List CV) (hT:aW P T) {env:FuncId→Option FSpec} (hE:fO P T env) (hm:P.follows .mixedOrders=true) {f:FuncId} {fn:Func} {c:Code} {pre:List SV→Prop} {post:List SV→α→Prop} (hf:P.funcs[f]? = some fn) (hb:fn.body=some c)
 (hcall:∀ args w,(callFunc f args).run P w=.ok (.enter f args) w) (hN:fn.ntmps=N)
 (h:∀ cs args,pre (.tup [(true,cs)] :: args)→(∀ a ∈ args,WfSV T a)→args.length+1≤N∧awp T env N c (fun e σ=>(e=.normal∨e=.ret)∧∃ x,post (.tup [(true,cs)] :: args) x∧(retB T N fn.results.toList (R (.tup [(true,cs)] :: args) x) (U (.tup [(true,cs)] :: args) x)).wp (fun _=>True) σ) (j3 N cs args)) :
 ∃ g:List SV→α,FOk P T f { pre:=pre,res:=fun a=>R a (g a),bx:=true,upd:=fun a=>U a (g a) }∧∀ cs args,pre (.tup [(true,cs)] :: args)→(∀ a ∈ args,WfSV T a)→post (.tup [(true,cs)] :: args) (g (.tup [(true,cs)] :: args)):=by
 have each:∀ a:List SV, ∃ r:α, ∀ cs args,a=.tup [(true,cs)] :: args→pre a→(∀ a ∈ args,WfSV T a)→post a r∧args.length+1≤N∧awp T env N c (fun e σ=>(e=.normal∨e=.ret)∧(retB T N fn.results.toList (R a r) (U a r)).wp (fun _=>True) σ) (j3 N cs args):=by
  intro a
  by_cases hp:∃ cs args,a=.tup [(true,cs)] :: args∧pre a∧∀ a ∈ args,WfSV T a
  · obtain ⟨cs,args,rfl,hp1,hp2⟩:=hp
    obtain ⟨h1,h2⟩:=h cs args hp1 hp2
    obtain ⟨e,σ',⟨he,r,h3,h4⟩,h5⟩:=cH c h2
    refine ⟨r,fun cs' args' he' _ _=>?_⟩
    have he2:=he'
    simp only [jbj,SV.tup.injEq,jbn,true_and,and_true] at he2
    obtain ⟨rfl,rfl⟩:=he2
    exact ⟨h3,h1,h5 (fun e σ=>(e=.normal∨e=.ret)∧(retB T N fn.results.toList (R _ r) (U _ r)).wp (fun _=>True) σ) ⟨he,h4⟩⟩
  · exact ⟨default,fun cs args he h1 h2=>absurd ⟨cs,args,he,h1,h2⟩ hp⟩
 refine ⟨fun a=>(each a).choose,fokB (s:={ pre:=pre,res:=fun a=>R a (each a).choose,bx:=true,upd:=fun a=>U a (each a).choose }) hT hE hm hf hb hcall hN (fun cs args h1 h2=>?_),fun cs args h1 h2=>((each _).choose_spec cs args rfl h1 h2).1⟩
 exact ((each _).choose_spec cs args rfl h1 h2).2
abbrev curC (e:TypeId) (rows:List (List D)) (i h:Int):List CV:=[.sl false e rows,.i .i64 i,.i .i64 h]
abbrev curA (e:TypeId) (rows:List (List D)) (i h:Int):SV:=.tup [(true,curC e rows i h)]
def bh (rows:List (List D)) (i:Int):Prop:=0≤i∧i≤rows.length∧rows.length≤1048576
def preC (e:TypeId) (args:List SV):Prop:=∃ rows i h,bh rows i∧args=[curA e rows i h]
def zA (e:TypeId) (ok:Int→Prop) (args:List SV):Prop:=∃ rows i h n,bh rows i∧ok n∧args=[curA e rows i h,.val false [.i .i64 n]]
def curU (e:TypeId) (args:List SV) (i h:Int):List CV:=match args with
 | .tup [(_,[.sl _ _ rows,_,_])] :: _=>curC e rows i h
 | _=>[]
def rowsOf (args:List SV):List (List D):=match args with
 | .tup [(_,[.sl _ _ rows,_,_])] :: _=>rows
 | _=>[]
theorem tf (a:Int):0≤andI .i64 a 255∧andI .i64 a 255≤255:=by
 have h:(BitVec.ofInt 64 a &&& BitVec.ofInt 64 255).toNat≤255:=by
  rw [BitVec.toNat_and]
  exact ja0 Nat.and_le_right (by decide)
 rw [oh]
 show 0≤IntKind.i64.wrap ((BitVec.ofInt 64 a &&& BitVec.ofInt 64 255).toNat:Int)∧IntKind.i64.wrap ((BitVec.ofInt 64 a &&& BitVec.ofInt 64 255).toNat:Int)≤255
 rw [aD (by omega) (by omega)]
 omega
def lH (h:Int):Int:=IntKind.i64.wrap (IntKind.i64.wrap (h * 6364136223846793005)+1442695040888963407)
noncomputable def sX (h:Int):Int:=andI .i64 (xorI .i64 (shrI .i64 (lH h) 33) (shrI .i64 (lH h) 45)) 255
def jaB (rows:List (List D)) (i:Int):Int:=IntKind.i64.wrap ((rows.getD i.toNat []).getD 0 default).int
noncomputable def dS (rows:List (List D)) (i h:Int):Int:=if i < rows.length then andI .i64 (IntKind.i64.wrap (sX h+jaB rows i)) 255 else sX h
def lG (rows:List (List D)) (i:Int):Int:=if i < rows.length then i+1 else i
theorem cM (rows:List (List D)) (i h:Int):0≤dS rows i h∧dS rows i h≤255:=by
 unfold dS sX
 split
 · exact tf _
 · exact tf _
theorem am {rows:List (List D)} {i:Int} (h:bh rows i):bh rows (lG rows i):=by
 obtain ⟨h1,h2,h3⟩:=h
 unfold lG
 split
 · exact ⟨by omega,by omega,h3⟩
 · exact ⟨h1,h2,h3⟩
theorem wL (y:Int):IntKind.i64.min≤shrI .i64 (IntKind.i64.wrap y) 33∧shrI .i64 (IntKind.i64.wrap y) 33≤IntKind.i64.max:=by
 rw [nw]
 have e:(2:Int) ^ min (Int.toNat 33) IntKind.i64.bits=8589934592:=by decide
 have h1:IntKind.i64.min = -9223372036854775808:=by decide
 have h2:IntKind.i64.max=9223372036854775807:=by decide
 rw [e,h1,h2,Int.fdiv_eq_ediv_of_nonneg _ (by decide),IntKind.wrap_i64]
 omega
theorem zh (y:Int):IntKind.i64.min≤shrI .i64 (IntKind.i64.wrap y) 45∧shrI .i64 (IntKind.i64.wrap y) 45≤IntKind.i64.max:=by
 rw [nw]
 have e:(2:Int) ^ min (Int.toNat 45) IntKind.i64.bits=35184372088832:=by decide
 have h1:IntKind.i64.min = -9223372036854775808:=by decide
 have h2:IntKind.i64.max=9223372036854775807:=by decide
 rw [e,h1,h2,Int.fdiv_eq_ediv_of_nonneg _ (by decide),IntKind.wrap_i64]
 omega
noncomputable def qR (e:TypeId):FSpec where
 pre:=preC e
 bx:=true
 res args:=match args with
  | [.tup [(_,[.sl _ _ rows,.i _ i,.i _ h])]]=>.val false [.i .i64 (dS rows i h)]
  | _=>.none
 upd args:=match args with
  | [.tup [(_,[.sl _ _ rows,.i _ i,.i _ h])]]=>curC e rows (lG rows i) (lH h)
  | _=>[]
noncomputable def eJ (rows:List (List D)) (i h n:Int):Int:=(dS rows i h).tmod n
theorem aN {rows:List (List D)} {i h n:Int} (hn:1≤n∧n≤256):0≤eJ rows i h n∧eJ rows i h n < n:=by
 have hb:=cM rows i h
 unfold eJ
 rw [jcr hb.1]
 exact ⟨Int.emod_nonneg _ (by omega),Int.emod_lt_of_pos _ (by omega)⟩
def bL (n:Int):Prop:=1≤n∧n≤256
theorem vB {rows:List (List D)} {i h n:Int} (hn:bL n):IntKind.i64.min≤(dS rows i h).tmod n∧(dS rows i h).tmod n≤IntKind.i64.max:=by
 have h1:IntKind.i64.min = -9223372036854775808:=by decide
 have h2:IntKind.i64.max=9223372036854775807:=by decide
 have h3:=aN (rows:=rows) (i:=i) (h:=h) hn
 have h4:=hn.2
 unfold eJ at h3
 rw [h1,h2]
 omega
noncomputable def bH (e:TypeId):FSpec where
 pre:=zA e bL
 bx:=true
 res args:=match args with
  | [.tup [(_,[.sl _ _ rows,.i _ i,.i _ h])],.val _ [.i _ n]]=>.val false [.i .i64 (eJ rows i h n)]
  | _=>.none
 upd args:=match args with
  | [.tup [(_,[.sl _ _ rows,.i _ i,.i _ h])],.val _ [.i _ n]]=>curC e rows (lG rows i) (lH h)
  | _=>[]
noncomputable def kd (e:TypeId):FSpec where
 pre:=zA e bL
 bx:=true
 res args:=match args with
  | [.tup [(_,[.sl _ _ rows,.i _ i,.i _ h])],.val _ [.i _ n]]=>.val false [.b (decide (eJ rows i h n=0))]
  | _=>.none
 upd:=(bH e).upd
noncomputable def eh (e l:TypeId):FSpec where
 pre args:=∃ rows i h list,bh rows i∧bL (list.length:Int)∧args=[curA e rows i h,argS l list]
 bx:=true
 res args:=match args with
  | [.tup [(_,[.sl _ _ rows,.i _ i,.i _ h])],.val _ [.sl _ _ list]]=>.val false [.s ((list.getD (eJ rows i h list.length).toNat []).getD 0 default).str]
  | _=>.none
 upd args:=match args with
  | [.tup [(_,[.sl _ _ rows,.i _ i,.i _ h])],_]=>curC e rows (lG rows i) (lH h)
  | _=>[]
theorem nB {rows:List (List D)} {i h:Int} (hi:decide (i < (rows.length:Int))=true):andI .i64 (IntKind.i64.wrap (sX h+jaB rows i)) 255=dS rows i h:=by
 rw [dS,if_pos (jaT hi)]
theorem pF {rows:List (List D)} {i h:Int} (hi:decide (i < (rows.length:Int))=false):sX h=dS rows i h:=by
 rw [dS,if_neg (ja4 hi)]
theorem ul {e:TypeId} {rows:List (List D)} {i h:Int} (ok:bh rows i) (hi:decide (i < (rows.length:Int))=true):curC e rows (IntKind.i64.wrap (i+1)) (lH h)=curC e rows (lG rows i) (lH h):=by
 obtain ⟨h1,h2,h3⟩:=ok
 rw [lG,if_pos (jaT hi),aD (by omega) (by omega)]
theorem xI {e:TypeId} {rows:List (List D)} {i h:Int} (hi:decide (i < (rows.length:Int))=false):curC e rows i (lH h)=curC e rows (lG rows i) (lH h):=by
 rw [lG,if_neg (ja4 hi)]
end Go.Proofs.YtkpnfbdoaljkpaaGreatDoor.Ab
