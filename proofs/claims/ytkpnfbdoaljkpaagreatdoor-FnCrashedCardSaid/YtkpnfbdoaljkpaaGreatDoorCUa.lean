/- Drawn values: what is known of them, in plain Lean. No program in -/
import Derived.Test.YtkpnfbdoaljkpaaGreatDoorCDa
namespace Go.Proofs.YtkpnfbdoaljkpaaGreatDoor.Ab
open Go.RowKit
set_option linter.all false
structure VL where
 k:Int
 n:Int
 s:Int
 t:ByteArray
 l:List (List D)
 c:List (List D)
 r:List (List D)
instance:Inhabited VL:=⟨⟨0,0,0,ByteArray.empty,[],[],[]⟩⟩
abbrev VL.row (x:VL):List D:=[.i x.k,.i x.n,.i x.s,.s x.t,.l x.l,.l x.c,.l x.r]
abbrev VL.own (V S R:TypeId) (x:VL):SV:=.val true [.i .i64 x.k,.i .i64 x.n,.i .i64 x.s,.s x.t,.sl true V x.l,.sl true S x.c,.sl true R x.r]
def VL.ok (T:Tab) (V S R:TypeId) (B:Nat) (x:VL):Prop :=
 inK .i64 x.k∧inK .i64 x.n∧inK .i64 x.s∧x.t.size+x.l.length+aP x.l+x.c.length+aP x.c+x.r.length+aP x.r≤B∧WfD T (.l V) (.l x.l)∧WfD T (.l S) (.l x.c)∧WfD T (.l R) (.l x.r)
theorem VL.ok.wf {T:Tab} {V S R:TypeId} {B:Nat} {x:VL} (h:x.ok T V S R B) (hB:B≤1099511627776):WfRow T [.i .i64,.i .i64,.i .i64,.s,.l V,.l S,.l R] x.row:=by
 obtain ⟨h1,h2,h3,h4,h5,h6,h7⟩:=h
 have hs:x.t.size≤maxLen:=by simp only [maxLen];omega
 refine ⟨rfl,fun j ct d hc hd=>?_⟩
 match j with
 | 0=>cases hc;cases hd;exact .int _ _ h1
 | 1=>cases hc;cases hd;exact .int _ _ h2
 | 2=>cases hc;cases hd;exact .int _ _ h3
 | 3=>cases hc;cases hd;exact .str _ hs
 | 4=>cases hc;cases hd;exact h5
 | 5=>cases hc;cases hd;exact h6
 | 6=>cases hc;cases hd;exact h7
 | j+7=>simp at hc
theorem VL.w (x:VL):wRow x.row=x.t.size+x.l.length+aP x.l+x.c.length+aP x.c+x.r.length+aP x.r:=by
 simp only [wRow,wD];omega
theorem VL.ok.mono {T:Tab} {V S R:TypeId} {B B' : Nat} {x:VL} (h:x.ok T V S R B) (hB:B≤B'):x.ok T V S R B' := by
 obtain ⟨h1,h2,h3,h4,h5⟩:=h
 exact ⟨h1,h2,h3,by omega,h5⟩
def LS (T:Tab) (e:TypeId) (B:Nat) (l:List (List D)):Prop:=l.length+aP l≤B∧WfD T (.l e) (.l l)
theorem WfD.add {T:Tab} {e:TypeId} {te:Ty} {l:List (List D)} {r:List D} (h:WfD T (.l e) (.l l)) (he:T e=some te) (hl:l.length+1≤maxLen) (hr:WfRow T te.cts r):WfD T (.l e) (.l (l++[r])):=by
 refine .sl e te _ he (by simpa using hl) (fun k row hk=>?_) (fun k j ct d row hk hc hd=>?_)
 · rw [jb6] at hk
   split at hk
   · cases h with
     | nil=>simp at hk
     | sl _ ty _ h1 h2 h3 h4 =>
       rw [he] at h1
       obtain rfl:=jaW h1
       exact h3 k row hk
   · have:k - l.length=0:=by
      rcases jcP (k - l.length) 1 with h' | h'
      · omega
      · rw [jb1 (by simpa using h')] at hk;cases hk
     rw [this] at hk
     obtain rfl:=jaW hk
     exact hr.1
 · rw [jb6] at hk
   split at hk
   · cases h with
     | nil=>simp at hk
     | sl _ ty _ h1 h2 h3 h4 =>
       rw [he] at h1
       obtain rfl:=jaW h1
       exact h4 k j ct d row hk hc hd
   · have:k - l.length=0:=by
      rcases jcP (k - l.length) 1 with h' | h'
      · omega
      · rw [jb1 (by simpa using h')] at hk;cases hk
     rw [this] at hk
     obtain rfl:=jaW hk
     exact hr.2 j ct d hc hd
theorem LS.add {T:Tab} {e:TypeId} {te:Ty} {B b:Nat} {l:List (List D)} {r:List D} (h:LS T e B l) (he:T e=some te) (hB:B < 1099511627776) (hr:WfRow T te.cts r) (hw:wRow r≤b):LS T e (B+1+b) (l++[r]):=by
 obtain ⟨h1,h2⟩:=h
 refine ⟨?_,h2.add he (by simp only [maxLen];omega) hr⟩
 rw [ck,jaV]
 show l.length+1+(aP l+(wRow r+0))≤_
 omega
theorem LS.mono {T:Tab} {e:TypeId} {B B' : Nat} {l:List (List D)} (h:LS T e B l) (hB:B≤B'):LS T e B' l:=⟨ja0 h.1 hB,h.2⟩
theorem LS.nil {T:Tab} {e:TypeId} {B:Nat}:LS T e B []:=⟨jaU _,.nil e⟩
theorem LS.len {T:Tab} {e:TypeId} {B:Nat} {l:List (List D)} (h:LS T e B l):l.length≤B:=by have:=h.1;omega
theorem kZ {P:List D→Prop} {l:List (List D)} (h0:P []) (h:∀ r ∈ l,P r) (k:Nat):P (l.getD k []):=by
 cases hk:l[k]? with
 | none =>
   have:l.getD k []=[]:=by simp [List.getD,hk]
   rw [this]
   exact h0
 | some r =>
   have:l.getD k []=r:=by simp [List.getD,hk]
   rw [this]
   exact h r (jbd hk)
theorem ah {P:ByteArray→Prop} {l:List (List D)} (h0:P ByteArray.empty) (h:∀ r ∈ l,P (r.getD 0 default).str) (k:Nat):P ((l.getD k []).getD 0 default).str:=kZ (P:=fun r=>P (r.getD 0 default).str) h0 h k
theorem tP {P:Int→Prop} {l:List (List D)} (h0:P 0) (h:∀ r ∈ l,P (r.getD 0 default).int) (k:Nat):P ((l.getD k []).getD 0 default).int:=kZ (P:=fun r=>P (r.getD 0 default).int) h0 h k
theorem VL.str_ok {T:Tab} {V S R:TypeId} {B:Nat} {n m:Int} (h:inK .i64 n) (h' : inK .i64 m):VL.ok T V S R B ⟨4,n,m,⟨#[]⟩,[],[],[]⟩ :=
 ⟨(show inK .i64 4 from ⟨by decide,by decide⟩),h,h',jaU _,.nil _,.nil _,.nil _⟩
def TR (b:Nat) (l:List (List D)):Prop:=∀ r ∈ l, ∃ t,r=[.s t]∧t.size≤b
theorem TR.nil {b:Nat}:TR b []:=fun r hr=>by cases hr
theorem TR.add {b:Nat} {l:List (List D)} {t:ByteArray} (h:TR b l) (ht:t.size≤b):TR b (l++[[.s t]]):=by
 intro r hr
 rcases jbt.1 hr with hr|hr
 · exact h r hr
 · obtain rfl:=jbK.1 hr
   exact ⟨t,rfl,ht⟩
theorem TR.mono {b b' : Nat} {l:List (List D)} (h:TR b l) (hb:b≤b'):TR b' l:=fun r hr=>let ⟨t,h1,h2⟩:=h r hr;⟨t,h1,ja0 h2 hb⟩
theorem TR.take {b:Nat} {l:List (List D)} (h:TR b l) (k:Nat):TR b (l.take k):=fun r hr=>h r (jcy hr)
theorem TR.drop {b:Nat} {l:List (List D)} (h:TR b l) (k:Nat):TR b (l.drop k):=fun r hr=>h r (List.mem_of_mem_drop hr)
theorem TR.app {b:Nat} {l m:List (List D)} (h:TR b l) (h' : TR b m):TR b (l++m):=by
 intro r hr
 rcases jbt.1 hr with hr|hr
 · exact h r hr
 · exact h' r hr
theorem TR.poke {b:Nat} {l:List (List D)} {t:ByteArray} {k:Nat} (h:TR b l) (hk:k < l.length) (ht:t.size≤b):TR b (bf l k 0 [.s t]):=by
 intro r hr
 unfold bf at hr
 rcases List.mem_or_eq_of_mem_set hr with hr|rfl
 · exact h r hr
 · have hm:l.getD k [] ∈ l:=by
    have:l.getD k []=l[k]:=by simp [List.getD,jaS hk]
    rw [this]
    exact jcj _
   obtain ⟨t0,h0,_⟩:=h _ hm
   rw [h0]
   exact ⟨t,rfl,ht⟩
theorem yd {T:Tab} {n:Int} (h:inK .i64 n):WfRow T [.i .i64] [.i n]:=by
 refine ⟨rfl,fun j ct d hc hd=>?_⟩
 match j with
 | 0=>cases hc;cases hd;exact .int _ _ h
 | j+1=>simp at hc
theorem ax {n:Int} (h:0≤n∧n < 256):inK .i64 n:=by
 have h1:IntKind.i64.min = -9223372036854775808:=by decide
 have h2:IntKind.i64.max=9223372036854775807:=by decide
 exact ⟨by rw [h1];omega,by rw [h2];omega⟩
theorem vX {a n:Int} (ha:0≤a) (hn:1≤n):0≤a.tmod n∧a.tmod n < n:=by
 rw [jcr ha]
 exact ⟨Int.emod_nonneg _ (by omega),Int.emod_lt_of_pos _ (by omega)⟩
theorem wfI {x:Int} (h:0≤x∧x≤1048577):inK .i64 x:=by
 have h1:IntKind.i64.min = -9223372036854775808:=by decide
 have h2:IntKind.i64.max=9223372036854775807:=by decide
 rw [inK,h1,h2]
 omega
theorem tmK {a n:Int} (ha:0≤a) (hn:1≤n∧n≤1048577):IntKind.i64.min≤a.tmod n∧a.tmod n≤IntKind.i64.max:=by
 have h:=vX ha hn.1
 exact wfI ⟨h.1,by omega⟩
theorem big4 {r1 r2 r3 r4:List (List D)} {i1 i2 i3 i4 h1 h2 h3 h4:Int}:0≤IntKind.i64.wrap (IntKind.i64.wrap (IntKind.i64.wrap (IntKind.i64.wrap (dS r1 i1 h1 * 16777216)+IntKind.i64.wrap (dS r2 i2 h2 * 65536))+IntKind.i64.wrap (dS r3 i3 h3 * 256))+dS r4 i4 h4):=by
 have a1:=cM r1 i1 h1
 have a2:=cM r2 i2 h2
 have a3:=cM r3 i3 h3
 have a4:=cM r4 i4 h4
 generalize dS r1 i1 h1=x at *
 generalize dS r2 i2 h2=y at *
 generalize dS r3 i3 h3=z at *
 generalize dS r4 i4 h4=w at *
 rw [aD (n:=x * 16777216) (by omega) (by omega),aD (n:=y * 65536) (by omega) (by omega),aD (n:=x * 16777216+y * 65536) (by omega) (by omega),aD (n:=z * 256) (by omega) (by omega),aD (n:=x * 16777216+y * 65536+z * 256) (by omega) (by omega),aD (by omega) (by omega)]
 omega
theorem cur0 {rows:List (List D)} (h:rows.length≤1048576):bh rows 0:=⟨by omega,by omega,h⟩
end Go.Proofs.YtkpnfbdoaljkpaaGreatDoor.Ab
