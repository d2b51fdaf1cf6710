/- A part. -/
import Derived.Test.YtdjfhmghebommaaGreatDoorDYi
namespace Go.Proofs.YtdjfhmghebommaaGreatDoor.Ab
open Go.RowKit
set_option linter.all false
section
variable {T:Tab}
abbrev rdrC (s:ByteArray) (k:Int) (b:Bool):List CV:=[.s s,.i .i64 k,.b b]
abbrev rdrS (s:ByteArray) (k:Int) (b:Bool):SV:=.tup [(true,rdrC s k b)]
def sd:FSpec where
 pre args:=∃ s w:ByteArray,args=[sArg s,sArg w]
 res args:=match args with
  | [.val _ [.s s],.val _ [.s w]]=>.val false [.b (Lib.hasPrefix s.data.toList w.data.toList)]
  | _=>.none
def jW:FSpec where
 pre args:=∃ s:ByteArray,s.size≤1048576∧args=[sArg s,.val false [.i .u8 34]]
 res args:=match args with
  | [.val _ [.s s],_]=>.val false [.i .i64 (Lib.indexByte s.data.toList 34)]
  | _=>.none
theorem FOk.quiet1 {P:Program} {f:FuncId} {s:FSpec} (hcall:∀ args w,(callFunc f args).run P w=.ok (.enter f args) w) (hbx:s.bx=false)
 (h:∀ (w:World) (X:Nat→Prop) (args:List SV) (vals:List Value),ArgsR T w X vals args→s.pre args→Calls P f vals.toArray w fun e w' => ∃ v,e=.returned v∧w' = w∧∃ c,s.res args=.val false [c]∧ArgC T w X v c∧∀ e rows,c ≠ .sl true e rows):FOk P T f s:=by
 refine ⟨hcall,fun hb=>(by rw [hbx] at hb;cases hb),fun _ w X args vals hX hargs hgl hpre=>?_,fun hb=>(by rw [hbx] at hb;cases hb)⟩
 refine (h w X args vals hargs hpre).mono fun e w' ⟨v,he,hw,c,hc,ha,hn⟩=>⟨v,fun _=>noB,he,hw ▸ Below.refl _ _,?_,(fun j b h=>by cases h),(fun j j2 b h=>by cases h)⟩
 rw [hc,hw]
 refine ⟨c,rfl,?_⟩
 have ha' : ArgC T w (fun b=>X b∨∃ j:Nat,noB b) v c:=ArgC.less (X:=X) ha fun b _ hb=>by
  rcases hb with hb|⟨j,hj⟩
  · exact hb
  · exact hj.elim
 cases c with
 | sl own e rows=>cases own with
   | true=>exact absurd rfl (hn e rows)
   | false=>exact ha'
 | _=>exact ha'
theorem yE {P:Program} {f:FuncId} (hcall:∀ args w,(callFunc f args).run P w=.ok (.enter f args) w)
 (h:∀ (s p:ByteArray) (w:World),Calls P f #[.string s,.string p] w fun e w' => e=.returned (.bool (Lib.hasPrefix s.data.toList p.data.toList))∧w' = w):FOk P T f sd:=by
 refine FOk.quiet1 hcall rfl fun w X args vals hargs hpre=>?_
 obtain ⟨s,p,rfl⟩:=hpre
 obtain ⟨v,u,rfl,h1,h2⟩:=hargs.two_
 obtain ⟨rfl,_⟩:=h1
 obtain ⟨rfl,_⟩:=h2
 exact (h s p w).mono fun e w' ⟨he,hw⟩=>⟨_,he,hw,_,rfl,rfl,fun e rows h=>by cases h⟩
theorem yC {P:Program} {f:FuncId} (hcall:∀ args w,(callFunc f args).run P w=.ok (.enter f args) w)
 (h:∀ (s:ByteArray) (c:Int) (w:World),Calls P f #[.string s,.int .u8 c] w fun e w' => e=.returned (.int .i64 (Lib.indexByte s.data.toList c.toNat.toUInt8))∧w' = w):FOk P T f jW:=by
 refine FOk.quiet1 hcall rfl fun w X args vals hargs hpre=>?_
 obtain ⟨s,hs,rfl⟩:=hpre
 obtain ⟨v,u,rfl,h1,h2⟩:=hargs.two_
 obtain ⟨rfl,_⟩:=h1
 obtain ⟨rfl,_⟩:=h2
 refine (h s 34 w).mono fun e w' ⟨he,hw⟩=>⟨_,he,hw,_,rfl,⟨rfl,?_⟩,fun e rows h=>by cases h⟩
 have h1:IntKind.i64.min = -9223372036854775808:=by decide
 have h2:IntKind.i64.max=9223372036854775807:=by decide
 have hl:s.data.toList.length=s.size:=jb5
 have hle:=(List.takeWhile_sublist (fun b:UInt8=>((b.toNat:Int) != 34)) (l:=s.data.toList)).length_le
 show inK .i64 (Lib.indexByte s.data.toList 34)
 rw [mj,inK,h1,h2]
 split <;> omega
def jV:FSpec where
 pre args:=∃ (s w:ByteArray) (k:Int) (b:Bool),PosIn s k∧w.size≤100∧args=[rdrS s k b,sArg w]
 bx:=true
 res args:=match args with
  | [.tup [(_,[.s s,.i _ k,.b b])],.val _ [.s w]]=>.val false [.b (stB s k w)]
  | _=>.none
 upd args:=match args with
  | [.tup [(_,[.s s,.i _ k,.b b])],.val _ [.s w]]=>rdrC s (tkK s k w) b
  | _=>[]
def spRd (cts:List CT) (ok:ByteArray→Int→Bool→Prop) (g:ByteArray→Int→Bool→Rd3):FSpec where
 pre args:=∃ (s:ByteArray) (k:Int) (b:Bool),PosIn s k∧ok s k b∧args=[rdrS s k b]
 bx:=true
 res args:=match args with
  | [.tup [(_,[.s s,.i _ k,.b b])]]=>.val true (rowC cts (g s k b).1)
  | _=>.none
 upd args:=match args with
  | [.tup [(_,[.s s,.i _ k,.b b])]]=>rdrC s (g s k b).2.1 (g s k b).2.2
  | _=>[]
def mR (cts:List CT) (d:Nat) (g:ByteArray→Int→Bool→Rd3):FSpec where
 pre args:=∃ (s:ByteArray) (k:Int) (b:Bool) (x:Int),PosIn s k∧x=(d:Int)∧args=[rdrS s k b,iArg x]
 bx:=true
 res args:=match args with
  | [.tup [(_,[.s s,.i _ k,.b b])],_]=>.val true (rowC cts (g s k b).1)
  | _=>.none
 upd args:=match args with
  | [.tup [(_,[.s s,.i _ k,.b b])],_]=>rdrC s (g s k b).2.1 (g s k b).2.2
  | _=>[]
theorem updR {s:ByteArray} {k k' : Int} {b b' : Bool} (h:k=k') (hb:b=b'):[CV.s s,CV.i .i64 k,CV.b b]=rdrC s k' b' := by rw [h,hb]
theorem tk_no {s w:ByteArray} {k:Int} (h:(!stB s k w)=true):k=tkK s k w:=by unfold tkK;rw [if_neg (by rw [aY h];decide)]
theorem zF {s w:ByteArray} {k:Int} (h:(!stB s k w)=false):k+(w.size:Int)=tkK s k w:=by unfold tkK;rw [if_pos (aA h)]
theorem PosIn.tk {s:ByteArray} {k:Int} (h:PosIn s k) (w:ByteArray):PosIn s (tkK s k w):=by
 have:=vP (s:=s) (w:=w) h.2.2
 exact ⟨h.1,by have:=h.2.1;omega,this.2⟩
theorem PosIn.andK {s:ByteArray} {k:Int} (h:PosIn s k) (b:Bool) (w:ByteArray):PosIn s (Ab.andK s k b w):=by
 have:=uw (s:=s) (w:=w) (b:=b) h.2.2
 exact ⟨h.1,by have:=h.2.1;omega,this.2⟩
theorem PosI.in_ {s:ByteArray} {k:Int} {b:Bool} {d:Nat} {r:Rd3} (h:PosIn s k) (hr:PosI s k b d r):PosIn s r.2.1:=⟨h.1,by have:=h.2.1;have:=hr.1;omega,hr.2.1⟩
theorem ie {s w:ByteArray} {k:Int} {b:Bool} (h:b=true):tkK s k w=Ab.andK s k b w:=by unfold Ab.andK;rw [if_pos h]
theorem qr {s w:ByteArray} {k:Int} {b:Bool} (h:b=false):k=Ab.andK s k b w:=by unfold Ab.andK;rw [if_neg (by rw [h];decide)]
theorem ig {s w:ByteArray} {k:Int} {b:Bool} (h:b=true):stB s k w=andB s k b w:=by unfold andB;rw [h];rfl
theorem qs {s w:ByteArray} {k:Int} {b:Bool} (h:b=false):false=andB s k b w:=by unfold andB;rw [h];rfl
theorem md_1 {s:ByteArray} {k:Nat} (h:(bAt s k == 45)=true):mdB (bAt s k)=true:=by unfold mdB;rw [h];rfl
theorem md_2 {s:ByteArray} {k:Nat} (h1:decide (bAt s k ≥ 48)=true) (h2:decide (bAt s k≤57)=true):mdB (bAt s k)=true:=by unfold mdB digB;rw [h1,h2];simp
theorem md_3 {s:ByteArray} {k:Nat} (h:(bAt s k == 45)=false) (h1:decide (bAt s k ≥ 48)=false):mdB (bAt s k)=false:=by unfold mdB digB;rw [h,h1];rfl
theorem md_4 {s:ByteArray} {k:Nat} (h:(bAt s k == 45)=false) (h2:decide (bAt s k≤57)=false):mdB (bAt s k)=false:=by unfold mdB digB;rw [h,h2];simp
section
variable {s:ByteArray} {k:Int} {b:Bool} {d:Nat}
theorem uG (hq:stB s k QUO=true) (h:(quoP s k).2 < 0):∀ d,valI s d k b=(vNil,k+1,false)
 | 0=>by unfold valI;rw [if_pos hq,if_pos h]
 | d+1=>by unfold valI;rw [if_pos hq,if_pos h]
theorem qv (hq:stB s k QUO=true) (h:¬ (quoP s k).2 < 0):∀ d,valI s d k b=(vTxt (quoP s k).1,(quoP s k).2,b)
 | 0=>by unfold valI;rw [if_pos hq,if_neg h]
 | d+1=>by unfold valI;rw [if_pos hq,if_neg h]
theorem rA (hq:stB s k QUO=false):valI s 0 k b=aW s k b:=by unfold valI;rw [if_neg (by rw [hq];decide)]
theorem vI_n (hq:stB s k QUO=false) (h:stB s k LBR=false):valI s (d+1) k b=aW s k b:=by unfold valI;rw [if_neg (by rw [hq];decide),if_neg (by rw [h];decide)]
theorem vI_e (hq:stB s k QUO=false) (h:stB s k LBR=true) (h2:stB s (k+1) RBR=true):valI s (d+1) k b=(vLst [],k+1+1,b):=by
 unfold valI;rw [if_neg (by rw [hq];decide),if_pos h,if_pos h2]
theorem vI_l (hq:stB s k QUO=false) (h:stB s k LBR=true) (h2:stB s (k+1) RBR=false):valI s (d+1) k b=(vLst (bz (valI s d) s (s.size+3) (k+1) b []).1,(bz (valI s d) s (s.size+3) (k+1) b []).2):=by
 rw [valI,if_neg (by rw [hq];decide),if_pos h,if_neg (by rw [h2];decide)]
end
end
section
theorem resR {cts:List CT} {p q:Rd3} {cs:List CV} (h:q=p) (hc:cs=rowC cts p.1):cs=rowC cts q.1:=by subst h;exact hc
theorem gq {s:ByteArray} {p q:Rd3} {k:Int} {b:Bool} (h:q=p) (hk:k=p.2.1) (hb:b=p.2.2):[CV.s s,CV.i .i64 k,CV.b b]=rdrC s q.2.1 q.2.2:=by subst h hk hb;rfl
theorem pz {s:ByteArray} {k:Nat} (h:stB s (k:Int) QUO=true):tkK s (k:Int) QUO=((k+1:Nat):Int)∧k+1≤s.size:=by
 have:=bi h
 have e:(QUO.size:Int)=1:=rfl
 unfold tkK
 rw [if_pos h]
 omega
theorem lX {s:ByteArray} {k:Nat} {x:Int} (hq:stB s (k:Int) QUO=true) (hx:x=(if quoE s (k:Int)=s.size then -1 else (quoE s (k:Int):Int) - (k+1))) (h:decide (x < 0)=true):(quoP s (k:Int)).2 < 0:=by
 have h:=jbO h
 have hle:k+1≤quoE s (k:Int):=j3
 unfold quoP
 rw [if_pos hq]
 by_cases he:quoE s (k:Int)=s.size
 · rw [if_pos he];decide
 · rw [if_neg he] at hx;omega
theorem jq {s:ByteArray} {k:Nat} {x:Int} (hq:stB s (k:Int) QUO=true) (hx:x=(if quoE s (k:Int)=s.size then -1 else (quoE s (k:Int):Int) - (k+1))) (h:decide (x < 0)=false) :
 quoP s (k:Int)=(s.extract (k+1) (quoE s (k:Int)),(quoE s (k:Int):Int)+1)∧x=(quoE s (k:Int):Int) - (k+1)∧k+1≤quoE s (k:Int)∧quoE s (k:Int) < s.size:=by
 have h:=jbZ h
 have hle:k+1≤quoE s (k:Int):=j3
 have hb:=bi hq
 have e:(QUO.size:Int)=1:=rfl
 have hle2:quoE s (k:Int)≤s.size:=lU (by show (k:Int).toNat+1≤s.size;omega)
 by_cases he:quoE s (k:Int)=s.size
 · rw [if_pos he] at hx;omega
 · rw [if_neg he] at hx
   refine ⟨?_,hx,hle,by omega⟩
   unfold quoP
   rw [if_pos hq,if_neg he]
   rfl
theorem qb {val:Int→Bool→Rd3} {s:ByteArray}:∀ (m:Nat) (k:Int) (out:List (List D)),bz val s m k false out=(out,k,false)
 | 0,_,_=>rfl
 | m+1,_,_=>rfl
theorem yx {val:Int→Bool→Rd3} {s:ByteArray} {m:Nat} {k:Int} {out:List (List D)} (hs:stB s (val k true).2.1 RBR=true):bz val s (m+1) k true out=(out++[(val k true).1],(val k true).2.1+1,(val k true).2.2):=by
 rw [bz,if_neg (by decide),if_pos hs]
theorem yw {val:Int→Bool→Rd3} {s:ByteArray} {m:Nat} {k:Int} {out:List (List D)} (hs:stB s (val k true).2.1 RBR=false):bz val s (m+1) k true out=bz val s m (andK s (val k true).2.1 (val k true).2.2 COMMA) (andB s (val k true).2.1 (val k true).2.2 COMMA) (out++[(val k true).1]):=by
 rw [bz,if_neg (by decide),if_neg (by rw [hs];decide)]
theorem dq {s w:ByteArray} {k:Int} (h:stB s k w=true):tkK s k w=k+(w.size:Int):=by unfold tkK;rw [if_pos h]
theorem bQ {s w:ByteArray} {k:Int} (h:stB s k w=false):tkK s k w=k:=by unfold tkK;rw [if_neg (by rw [h];decide)]
theorem sg {f:Int→Bool→List (List D)→Snap} {a a' : Int} {b b' : Bool} {r r' : List (List D)} (h:a=a') (h2:b=b') (h3:r=r'):f a b r=f a' b' r' := by rw [h,h2,h3]
variable {T:Tab}
def sf:FSpec where
 pre args:=∃ t:ByteArray,args=[sArg t]
 res args:=match args with
  | [.val _ [.s t]]=>.val false [.i .i64 (errI t)]
  | _=>.none
theorem jbo (t:ByteArray):IntKind.i64.wrap (idxT (ae errs.tail) t+1)=errI t:=by
 have hl:(ae errs.tail).length=8:=rfl
 refine wr64 ?_ ?_
 all_goals
  rcases dz (ae errs.tail).length (isAt (ae errs.tail) t) with ⟨h,_⟩|⟨i,hi,h,_⟩
  · unfold idxT;rw [h];decide
  · unfold idxT;rw [h];omega
def seqR (s:ByteArray) (a:Rd3) (g:Int→Bool→Rd3):Rd3:=g (andK s a.2.1 a.2.2 COMMA) (andB s a.2.1 a.2.2 COMMA)
def endR (s:ByteArray) (v:List D) (c:Rd3):Rd3:=(v,andK s c.2.1 c.2.2 RPA,andB s c.2.1 c.2.2 RPA)
def gp (num va vb vc:ByteArray→Int→Bool→Rd3) (s:ByteArray):Rd3 :=
 if stB s 0 ERR=true then (vErr (errI (s.extract 6 s.size)),s.size,true) else
 if stB s 0 RNG=true then endR s (vStr (iAt (num s 6 true).1 1) (iAt (seqR s (num s 6 true) (num s)).1 1)) (seqR s (num s 6 true) (num s)) else
 if stB s 0 TBO=true then endR s (vTbl (ae (aj ((va s 6 true).1.getD 3 default).str)) ((lst (seqR s (va s 6 true) (vb s)).1).map aD)) (seqR s (va s 6 true) (vb s)) else
 vc s 0 true
theorem rt (s:ByteArray):gp aW (fun s k b=>valI s 0 k b) (fun s k b=>valI s 2 k b) (fun s k b=>valI s 3 k b) s=bN s:=rfl
section
variable {num va vb vc:ByteArray→Int→Bool→Rd3} {s:ByteArray}
theorem jbL (h:stB s 0 ERR=true):gp num va vb vc s=(vErr (errI (s.extract 6 s.size)),(s.size:Int),true):=if_pos h
theorem W_rng {P:Int} (hP:P=6) (h:stB s 0 ERR=false) (h2:stB s 0 RNG=true):gp num va vb vc s=endR s (vStr (iAt (num s P true).1 1) (iAt (seqR s (num s P true) (num s)).1 1)) (seqR s (num s P true) (num s)):=by
 subst hP;unfold gp;rw [if_neg (by rw [h];decide),if_pos h2]
theorem jbK {P:Int} (hP:P=6) (h:stB s 0 ERR=false) (h2:stB s 0 RNG=false) (h3:stB s 0 TBO=true):gp num va vb vc s=endR s (vTbl (ae (aj ((va s P true).1.getD 3 default).str)) ((lst (seqR s (va s P true) (vb s)).1).map aD)) (seqR s (va s P true) (vb s)):=by
 subst hP;unfold gp;rw [if_neg (by rw [h];decide),if_neg (by rw [h2];decide),if_pos h3]
theorem W_val {P:Int} (hP:P=0) (h:stB s 0 ERR=false) (h2:stB s 0 RNG=false) (h3:stB s 0 TBO=false):gp num va vb vc s=vc s P true:=by
 subst hP;unfold gp;rw [if_neg (by rw [h];decide),if_neg (by rw [h2];decide),if_neg (by rw [h3];decide)]
end
theorem wd {s:ByteArray} {a:Rd3} {g:Int→Bool→Rd3} (h:a.2.2=true):g (tkK s a.2.1 COMMA) (stB s a.2.1 COMMA)=seqR s a g:=by
 unfold seqR;rw [← ie h, ← ig h]
theorem wg {s:ByteArray} {a:Rd3} {g:Int→Bool→Rd3} (h:a.2.2=false):g a.2.1 false=seqR s a g:=by
 unfold seqR;rw [← qr h, ← qs h]
theorem qf {s:ByteArray} {v:List D} {c c' : Rd3} (hc:c=c') (h:c.2.2=true):rdrC s (tkK s c.2.1 RPA) (stB s c.2.1 RPA)=rdrC s (endR s v c').2.1 (endR s v c').2.2:=by
 subst hc;exact updR (ie h) (ig h)
theorem qg {s:ByteArray} {v:List D} {c c' : Rd3} (hc:c=c') (h:c.2.2=false):rdrC s c.2.1 false=rdrC s (endR s v c').2.1 (endR s v c').2.2:=by
 subst hc;exact updR (qr h) (qs h)
theorem updQ {s:ByteArray} {q q' : Rd3} {cs:List CV} (h:q=q') (hc:cs=rdrC s q'.2.1 q'.2.2):cs=rdrC s q.2.1 q.2.2:=by rw [h];exact hc
theorem lR {f:List (List D)→Int→Bool→Snap} {s:ByteArray} {L L' : List (List D)} {k k' : Int} {b b' : Bool} (h:L=L') (h2:rdrC s k b=rdrC s k' b'):f L k b=f L' k' b' := by
 have e1:k=k' := by simpa [rdrC] using (jdb (jdb h2).2).1
 have e2:b=b' := by simpa [rdrC] using (jdb (jdb (jdb h2).2).2).1
 rw [h,e1,e2]
theorem uK {s w:ByteArray} (h:stB s 0 w=true):tkK s 0 w=(w.size:Int):=by rw [dq h];omega
end
section
variable {T:Tab} {P:Program}
theorem pr {s:ByteArray} {k:Int} {b:Bool} (d:Nat) (h:PosIn s k):PosIn s (valI s d k b).2.1:=(dP s d k b h.2.1 h.2.2).in_ h
theorem uF {s:ByteArray} {k:Int} {b:Bool} (d:Nat) (hd:d≤100) (h:PosIn s k):wRow (valI s d k b).1≤4194304:=by
 have a:=dP s d k b h.2.1 h.2.2
 have:=a.2.2.2
 have:=a.1
 have:=a.2.1
 have:=h.1
 have:=h.2.1
 omega
theorem jaQ {s:ByteArray} {k:Int} {b:Bool} (h:PosIn s k):PosIn s (aW s k b).2.1:=(mb b 0 h.2.1 h.2.2).in_ h
theorem ry {s:ByteArray} {k:Int} {b:Bool} (h:PosIn s k):((valI s 0 k b).1.getD 3 default).str.size≤1048576:=by
 have:=h.1
 unfold valI
 split
 · split
   · exact jbP _
   · show (quoP s k).1.size≤_
     rcases cB h.2.1 h.2.2 with h1|h1
     · rw [h1.2];exact jbP _
     · have:=h.2.1;omega
 · exact jbP _
theorem xm {s:ByteArray} (hs:s.size≤1048576):wRow (bN s).1≤WM:=by
 have hp:∀ k:Int,0≤k→k≤s.size→PosIn s k:=fun k h0 h=>⟨hs,h0,h⟩
 show wRow (bN s).1≤1099511627776
 unfold bN
 split
 · rw [w7];simp only [aO,jcc];decide
 split
 · show wRow (vStr _ _)≤_
   rw [w7];simp only [aO,jcc];decide
 split
 · rename_i hb
   have hb:=bi hb
   have e:(TBO.size:Int)=6:=rfl
   have p6:PosIn s 6:=hp 6 (by decide) (by omega)
   have t:=ry (b:=true) p6
   have pa:=pr (b:=true) 0 p6
   have pb:=pa.andK (valI s 0 6 true).2.2 COMMA
   have wb:=uF (b:=andB s (valI s 0 6 true).2.1 (valI s 0 6 true).2.2 COMMA) 2 (by decide) pb
   show wRow (vTbl _ _)≤_
   rw [w7,jb0]
   have h1:=rq ((valI s 0 6 true).1.getD 3 default).str
   have h2:=pm (lst (valI s 2 (andK s (valI s 0 6 true).2.1 (valI s 0 6 true).2.2 COMMA) (andB s (valI s 0 6 true).2.1 (valI s 0 6 true).2.2 COMMA)).1)
   have h3:=cT (valI s 2 (andK s (valI s 0 6 true).2.1 (valI s 0 6 true).2.2 COMMA) (andB s (valI s 0 6 true).2.1 (valI s 0 6 true).2.2 COMMA)).1 4
   generalize valI s 2 (andK s (valI s 0 6 true).2.1 (valI s 0 6 true).2.2 COMMA) (andB s (valI s 0 6 true).2.1 (valI s 0 6 true).2.2 COMMA)=r at *
   generalize ((valI s 0 6 true).1.getD 3 default).str=tt at *
   have e0:ES.size=0:=rfl
   have e1:lst r.1=(r.1.getD 4 default).rows:=rfl
   rw [e1] at h2 ⊢
   rw [e0]
   simp only [aO,jcc]
   omega
 · exact jbV (uF 3 (by decide) (hp 0 (jcz _) (jb2 _))) (by decide)
end
end Go.Proofs.YtdjfhmghebommaaGreatDoor.Ab
