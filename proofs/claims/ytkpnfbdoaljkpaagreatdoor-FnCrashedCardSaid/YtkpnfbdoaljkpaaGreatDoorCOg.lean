/- The reference's ParseOp, exactly: printed by a program of this -/
import Derived.Test.YtkpnfbdoaljkpaaGreatDoorCYl
namespace Go.Proofs.YtkpnfbdoaljkpaaGreatDoor.Ab
open Go.RowKit
set_option linter.all false
set_option maxRecDepth 100000
set_option maxHeartbeats 2000000
abbrev cRd:List CT:=[.i .i64,.i .i64,.i .i64,.s,.i .i64,.i .i64,.i .i64,.s,.l 53,.l 9,.l 131]
def RdOk (r:List D):Prop:=WfRow T cRd r∧(r.getD 3 default).str.size≤1048576∧(r.getD 9 default).rows.length+(r.getD 10 default).rows.length≤2097152
theorem WfRow.app {c1 c2:List CT} {r1 r2:List D} (h1:WfRow T c1 r1) (h2:WfRow T c2 r2):WfRow T (c1++c2) (r1++r2):=by
 induction c1 generalizing r1 with
 | nil=>obtain rfl:=h1.nil';exact h2
 | cons c c1 ih =>
   obtain ⟨d,r,rfl,hd,hr⟩:=h1.cons'
   exact .cons hd (ih hr)
theorem zt {a b c:Int} {t:ByteArray} {v:List D} (ha:inK .i64 a) (hb:inK .i64 b) (hc:inK .i64 c) (ht:t.size≤1048576) (hv:WfRow T cV v) (hw:wRow v≤2097152):RdOk ([.i a,.i b,.i c,.s t]++v):=by
 refine ⟨WfRow.app (c1:=[.i .i64,.i .i64,.i .i64,.s]) (.cons (.int _ _ ha) (.cons (.int _ _ hb) (.cons (.int _ _ hc) (.cons (.str _ (ja0 ht (by decide))) .nil)))) hv,ht,?_⟩
 have e1:([D.i a,D.i b,D.i c,D.s t]++v).getD 9 default=v.getD 5 default:=rfl
 have e2:([D.i a,D.i b,D.i c,D.s t]++v).getD 10 default=v.getD 6 default:=rfl
 rw [e1,e2]
 obtain ⟨d0,r0,rfl,w0,hv⟩:=hv.cons'
 obtain ⟨d1,r1,rfl,w1,hv⟩:=hv.cons'
 obtain ⟨d2,r2,rfl,w2,hv⟩:=hv.cons'
 obtain ⟨d3,r3,rfl,w3,hv⟩:=hv.cons'
 obtain ⟨d4,r4,rfl,w4,hv⟩:=hv.cons'
 obtain ⟨d5,r5,rfl,w5,hv⟩:=hv.cons'
 obtain ⟨d6,r6,rfl,w6,hv⟩:=hv.cons'
 obtain rfl:=hv.nil'
 have h5:=na d5
 have h6:=na d6
 simp only [wRow] at hw
 show d5.rows.length+d6.rows.length≤_
 omega
theorem vN {a0 a1 a2 e0 e1 c0 c1 c2 cn ce ve:Int} {seen rd:List (List D)} {nm cd fr tt:ByteArray} (h0:inK .i64 a0) (h1:inK .i64 a1) (h2:inK .i64 a2) (hs:seen.length≤3) (hsw:∀ r ∈ seen,WfRow T [.i .i64] r) (h4:inK .i64 e0) (h5:inK .i64 e1) (h6:inK .i64 c0) (h7:inK .i64 c1) (h8:inK .i64 c2)
 (hn:nm.size≤1048576) (hd:cd.size≤1048576) (h11:inK .i64 cn) (hf:fr.size≤1048576) (ht:tt.size≤1048576) (h14:inK .i64 ce) (h15:inK .i64 ve) (hr:rd.length≤1048576) (hrd:∀ r ∈ rd,RdOk r) :
 WfRow T cO (opOf a0 a1 a2 seen e0 e1 c0 c1 c2 nm cd cn fr tt ce ve rd)∧SmO (opOf a0 a1 a2 seen e0 e1 c0 c1 c2 nm cd cn fr tt ce ve rd):=by
 have tx:∀ {t:ByteArray},t.size≤1048576→WfD T .s (.s t):=fun h=>.str _ (ja0 h (by decide))
 refine ⟨.cons (.int _ _ h0) (.cons (.int _ _ h1) (.cons (.int _ _ h2) (.cons (WfD.of_rows (show T 3=some _ from rfl) (ja0 hs (by decide)) hsw) (.cons (.int _ _ h4) (.cons (.int _ _ h5) (.cons (.int _ _ h6) (.cons (.int _ _ h7) (.cons (.int _ _ h8)
  (.cons (tx hn) (.cons (tx hd) (.cons (.int _ _ h11) (.cons (tx hf) (.cons (tx ht) (.cons (.int _ _ h14) (.cons (.int _ _ h15) (.cons (WfD.of_rows (show T 96=some _ from rfl) (ja0 hr (by decide)) fun r h=>(hrd r h).1) .nil)))))))))))))))),?_⟩
 refine ⟨ja0 hs (by decide),hr,⟨hn,hd,hf,ht⟩,fun i hi=>?_⟩
 have:=hrd (rd.getD i []) (by have hi' : i < rd.length:=hi;rw [jaY,jaS hi'];exact jcj hi')
 exact this.2
theorem prs_k (s:ByteArray):inK .i64 (prs (-999999999999) 999999999999 s).1:=by
 have e1:IntKind.i64.min = -9223372036854775808:=by decide
 have e2:IntKind.i64.max=9223372036854775807:=by decide
 have:-999999999999≤(prs (-999999999999) 999999999999 s).1∧(prs (-999999999999) 999999999999 s).1≤999999999999:=oV (by decide) (by decide)
 rw [inK,e1,e2];omega
theorem zx (s:ByteArray):inK .i64 (prs (-1000000000) 1000000000 s).1:=by
 have e1:IntKind.i64.min = -9223372036854775808:=by decide
 have e2:IntKind.i64.max=9223372036854775807:=by decide
 have:-1000000000≤(prs (-1000000000) 1000000000 s).1∧(prs (-1000000000) 1000000000 s).1≤1000000000:=oV (by decide) (by decide)
 rw [inK,e1,e2];omega
theorem c7 (rows:List (List D)) (k:Nat):inK .i64 (numS rows k):=by
 unfold numS
 split
 · exact prs_k _
 · exact k0 0 (by decide) (by decide)
theorem oK (rows:List (List D)) (i:Nat):(qW rows i).length=i∧∀ r ∈ qW rows i,WfRow T [.i .i64] r:=by
 unfold qW
 refine ⟨by simp,fun r hr=>?_⟩
 obtain ⟨j,_,rfl⟩:=jbB.1 hr
 exact .cons (.int _ _ (c7 _ _)) .nil
theorem zL {rows:List (List D)} (hs:SmW rows) {rd:List (List D)} (hr:rd.length≤1048576) (hrd:∀ r ∈ rd,RdOk r):WfRow T cO (opS rows rd)∧SmO (opS rows rd) :=
 vN (c7 _ _) (c7 _ _) (c7 _ _) (by rw [(oK rows 3).1];exact ja9 _) (oK rows 3).2 (c7 _ _) (c7 _ _) (c7 _ _) (c7 _ _) (c7 _ _) (cU hs _) (cU hs _) (c7 _ _) (cU hs _) (cU hs _) (c7 _ _) (c7 _ _) hr hrd
theorem wQ {rows:List (List D)} (hs:SmW rows) {pv:ByteArray→List D × Bool} (hw:∀ t,t.size≤1048576→WfRow T cV (pv t).1∧wRow (pv t).1≤2097152) (k:Nat):RdOk (rowS pv rows k) :=
 zt (c7 _ _) (c7 _ _) (c7 _ _) (cU hs _) (hw _ (cU hs _)).1 (hw _ (cU hs _)).2
theorem pX (w:World) (n:Nat):Below w.heap.size w (w.drewN n):=⟨rfl,rfl,rfl,ja9 _,fun _ _=>rfl⟩
theorem okCut:FOk Tryz.prog T 79 spCut:=by
 refine ⟨Tryz.call79,fun hb=>(by cases hb),fun _ w X args vals hX hargs hgl hpre=>?_,fun hb=>(by cases hb)⟩
 obtain ⟨s,hs,rfl⟩:=hpre
 obtain ⟨v,u,rfl,⟨rfl,_⟩,⟨rfl,_⟩⟩:=hargs.two_
 obtain ⟨_,_,u,hm,m,rfl⟩:=hgl.2 (1,false) (by decide)
 refine (Tryz.strings_Cut s NL m w (by omega) hm).mono ?_
 rintro e w' ⟨he,n,hw⟩
 refine ⟨_,fun _=>noB,he,?_,?_,(fun j b h=>by cases h),(fun j j2 b h=>by cases h)⟩
 · rw [hw];exact pX w n
 · refine ⟨[.string (cutL s),.string (cutR s),.bool (cutF s)],rfl,rfl,fun j p x hp hx=>?_⟩
   match j with
   | 0 =>
     obtain rfl:=jaW hp
     obtain rfl:=jaW hx
     exact TupR.of_arg ⟨_,rfl,rfl,ja0 (mV s) (ja0 hs (by decide))⟩
   | 1 =>
     obtain rfl:=jaW hp
     obtain rfl:=jaW hx
     exact TupR.of_arg ⟨_,rfl,rfl,ja0 (sR s) (ja0 hs (by decide))⟩
   | 2 =>
     obtain rfl:=jaW hp
     obtain rfl:=jaW hx
     exact TupR.of_arg ⟨_,rfl,rfl⟩
   | j+3=>simp at hp
theorem okLast:FOk Tryz.prog T 80 spLast:=by
 refine ⟨Tryz.call80,fun hb=>(by cases hb),fun _ w X args vals hX hargs hgl hpre=>?_,fun hb=>(by cases hb)⟩
 obtain ⟨s,hs,rfl⟩:=hpre
 obtain ⟨v,u,rfl,⟨rfl,_⟩,⟨rfl,_⟩⟩:=hargs.two_
 refine (Tryz.strings_LastIndexByte s 32 (by omega) w).mono ?_
 rintro e w' ⟨he,hw⟩
 have h1:IntKind.i64.min = -9223372036854775808:=by decide
 have h2:IntKind.i64.max=9223372036854775807:=by decide
 have hl:=rR s
 exact ⟨_,fun _=>noB,he,hw ▸ Below.refl _ _,⟨_,rfl,rfl,by rw [inK,h1,h2];omega⟩,(fun j b h=>by cases h),(fun j j2 b h=>by cases h)⟩
def PoOk (po:ByteArray→List D × Bool):Prop:=∀ t,t.size≤1048576→WfRow T cO (po t).1∧SmO (po t).1
theorem zero_ok:WfRow T cO bV∧SmO bV:=by
 have z:inK .i64 0:=k0 0 (by decide) (by decide)
 exact vN z z z (jaU _) (fun r h=>absurd h jaX) z z z z z (jaU _) (jaU _) z (jaU _) (jaU _) z z (jaU _) (fun r h=>absurd h jaX)
theorem rj {pv:ByteArray→List D × Bool} (hw:∀ t,t.size≤1048576→WfRow T cV (pv t).1∧wRow (pv t).1≤2097152) {rows:List (List D)} (hs:SmW rows) {c:Int}:∀ (m i:Nat) (out:List (List D)),(∀ r ∈ out,RdOk r)→out.length=i→5 * i≤rows.length →
 (∀ r ∈ rdsS pv rows c m i out,RdOk r)∧5 * (rdsS pv rows c m i out).length≤rows.length
 | 0,i,out,h,hl,hi=>⟨h,by rw [rdsS,hl];exact hi⟩
 | m+1,i,out,h,hl,hi=>by
   rw [rdsS]
   split
   · rename_i hc
     refine rj hw hs m (i+1) _ (fun r hr=>?_) (by rw [jaV,hl];rfl) (by omega)
     rcases jbt.1 hr with hr|hr
     · exact h r hr
     · rw [jbK.1 hr];exact wQ hs hw _
   · exact ⟨h,by rw [hl];exact hi⟩
theorem zF (o:List D) (e:Bool) (s:ByteArray):(poOf o e s).1=o∨(poOf o e s).1=bV:=by
 unfold poOf
 split
 · exact .inl rfl
 · exact .inr rfl
theorem zE {pv:ByteArray→List D × Bool} (hw:∀ t,t.size≤1048576→WfRow T cV (pv t).1∧wRow (pv t).1≤2097152):PoOk (poS pv):=by
 intro t ht
 have sm:=smW t ht
 have hl:=nx t ht
 obtain ⟨h1,h2⟩:=rj (c:=numS (af (ao t)) 18) hw sm ((af (ao t)).length+1) 0 [] (fun r h=>absurd h jaX) rfl (jaU _)
 unfold poS
 rcases zF (opS (af (ao t)) (rdsS pv (af (ao t)) (numS (af (ao t)) 18) ((af (ao t)).length+1) 0 [])) (!(t.toList == [])) t with e|e
 · rw [e];exact zL sm (by omega) h1
 · rw [e];exact zero_ok
theorem FOk.po_same {P:Program} {f:FuncId} {cts:List CT} {po po' : ByteArray→List D × Bool} (he:∀ s,s.size≤1048576→po' s=po s) (h:FOk P T f (fV cts po')):FOk P T f (fV cts po):=by
 refine ⟨h.call,fun hb=>(by cases hb),fun _ w X args vals a1 a2 a3 hpre=>?_,fun hb=>(by cases hb)⟩
 obtain ⟨s,hs,rfl⟩:=hpre
 have:=h.ok rfl w X _ vals a1 a2 a3 ⟨s,hs,rfl⟩
 show Calls P f vals.toArray w _
 have e:(fV cts po').res [sArg s]=(fV cts po).res [sArg s]:=by
  show SV.tup [(true,rowC cts (po' s).1),(false,[.b (po' s).2])]=SV.tup [(true,rowC cts (po s).1),(false,[.b (po s).2])]
  rw [he s hs]
 rw [e] at this
 exact this
theorem zn {po:ByteArray→List D × Bool} (hp:PoOk po) {s:ByteArray} (hs:s.size≤1048576) (k:Int):WfRow T cO (recS po s k).1∧SmO (recS po s k).1∧0≤(recS po s k).2∧(0≤k→k≤s.size→k+(recS po s k).2≤s.size):=by
 unfold recS
 split
 · rename_i hk
   obtain ⟨n,rfl⟩:=jbU hk.1
   rw [jbf]
   have hn:n≤s.size:=by omega
   obtain ⟨a,b,c,d⟩:=eD (s:=s) s.size n hn (by omega)
   have a' : n≤eolK s n:=a
   have b' : eolK s n≤s.size:=b
   unfold recN
   split
   · exact ⟨zero_ok.1,zero_ok.2,jbE _,fun _ h=>by simpa using h⟩
   · rename_i he
     split
     · have:=hp (s.extract n (spK s n - 1)) (by rw [jbi];omega)
       exact ⟨this.1,this.2,ja7 _,fun _ _=>by show (n:Int)+((eolK s n+1 - n:Nat):Int)≤_;omega⟩
     · exact ⟨zero_ok.1,zero_ok.2,jbE _,fun _ h=>by simpa using h⟩
 · exact ⟨zero_ok.1,zero_ok.2,jbE _,fun _ h=>by simpa using h⟩
theorem nA {cts:List CT} {p q:List D × Int} {cs:List CV} {e:Int} (h:q=p) (hc:cs=rowC cts p.1) (he:e=p.2):[(true,cs),(false,[CV.i .i64 e])]=[(true,rowC cts q.1),(false,[CV.i .i64 q.2])]:=by
 subst h hc he;rfl
theorem rh {po:ByteArray→List D × Bool} {s:ByteArray} {n e p:Nat} (hn:n≤s.size) (he:eolK s n=e) (hp:spK s n=p):recS po s (n:Int)=recN po s n e p:=by
 unfold recS
 rw [if_pos ⟨ja7 _,by omega⟩,jbf,he,hp]
section
variable {po:ByteArray→List D × Bool} {s x y:ByteArray} {n e p:Nat}
end
theorem wrap1 {e:Nat} (he:e≤1048576):IntKind.i64.wrap ((e:Int)+1)=((e+1:Nat):Int):=by
 rw [IntKind.wrap_i64];omega
end Go.Proofs.YtkpnfbdoaljkpaaGreatDoor.Ab
namespace Go.Proofs.YtkpnfbdoaljkpaaGreatDoor.Ab
open Go.RowKit
set_option linter.all false
section
variable (rc:ByteArray→Int→List D × Int) (s:ByteArray)
def rcF:Nat→Int→List (List D)→List (List D) × Int
 | 0,k,out=>(out,k)
 | m+1,k,out=>if out.length < 60∧(rc s k).2 ≠ 0 then rcF m (k+(rc s k).2) (out++[(rc s k).1]) else (out,k)
def rcA:List (List D) × Int:=rcF rc s 60 0 []
end
def RcOk (rc:ByteArray→Int→List D × Int):Prop:=∀ s k,s.size≤1048576→WfRow T cO (rc s k).1∧SmO (rc s k).1∧0≤(rc s k).2∧(0≤k→k≤s.size→k+(rc s k).2≤s.size)
theorem wT {po:ByteArray→List D × Bool} (hp:PoOk po):RcOk (recS po):=fun s k hs=>zn hp hs k
theorem zu {rc:ByteArray→Int→List D × Int} {s:ByteArray} {m:Nat} {k:Int} {out:List (List D)} (h:out.length < 60) (h2:((rc s k).2 == 0)=false) (hm:60≤m+out.length):∃ g,m=g+1∧rcF rc s m k out=rcF rc s g (k+(rc s k).2) (out++[(rc s k).1]):=by
 obtain ⟨g,rfl⟩:∃ g,m=g+1:=⟨m - 1,by omega⟩
 exact ⟨g,rfl,by rw [rcF,if_pos ⟨h,beq_eq_false_iff_ne.1 h2⟩]⟩
theorem oS {rc:ByteArray→Int→List D × Int} {s:ByteArray} {m:Nat} {k:Int} {out:List (List D)} (h:¬ (out.length < 60∧(rc s k).2 ≠ 0)):rcF rc s m k out=(out,k):=by
 cases m with
 | zero=>rfl
 | succ m=>rw [rcF,if_neg h]
theorem wrapA {k r:Int} {n:Nat} (h0:0≤k) (h1:0≤r) (h:k+r≤n) (hn:n≤1048576):IntKind.i64.wrap (k+r)=k+r:=by
 rw [IntKind.wrap_i64];omega
theorem zd {f:List (List D)→Int→Snap} {r r' : List (List D)} {a a' : Int} (h:r=r') (h2:a=a'):f r a=f r' a' := by rw [h,h2]
theorem FOk.rc_same {P:Program} {f:FuncId} {cts:List CT} {rc rc' : ByteArray→Int→List D × Int} (he:∀ s k,s.size≤1048576→rc' s k=rc s k) (h:FOk P T f (spPR cts rc')):FOk P T f (spPR cts rc):=by
 refine ⟨h.call,fun hb=>(by cases hb),fun _ w X args vals a1 a2 a3 hpre=>?_,fun hb=>(by cases hb)⟩
 obtain ⟨s,k,hs,rfl⟩:=hpre
 have:=h.ok rfl w X _ vals a1 a2 a3 ⟨s,k,hs,rfl⟩
 show Calls P f vals.toArray w _
 have e:(spPR cts rc').res [sArg s,iArg k]=(spPR cts rc).res [sArg s,iArg k]:=by
  show SV.tup [(true,rowC cts (rc' s k).1),(false,[.i .i64 (rc' s k).2])]=SV.tup [(true,rowC cts (rc s k).1),(false,[.i .i64 (rc s k).2])]
  rw [he s k hs]
 rw [e] at this
 exact this
end Go.Proofs.YtkpnfbdoaljkpaaGreatDoor.Ab
namespace Go.Proofs.YtkpnfbdoaljkpaaGreatDoor.Ab
open Go.RowKit
set_option linter.all false
set_option maxRecDepth 100000
set_option maxHeartbeats 2000000
theorem vf {rc:ByteArray→Int→List D × Int} (hw:RcOk rc) {s:ByteArray} (hs:s.size≤1048576):∀ (m:Nat) (k:Int) (out:List (List D)),0≤k→k≤s.size→0≤(rcF rc s m k out).2∧(rcF rc s m k out).2≤s.size
 | 0,k,out,h0,h1=>⟨h0,h1⟩
 | m+1,k,out,h0,h1=>by
   rw [rcF]
   split
   · have:=hw s k hs
     exact vf hw hs m _ _ (by omega) (this.2.2.2 h0 h1)
   · exact ⟨h0,h1⟩
theorem vg {rc:ByteArray→Int→List D × Int} (hw:RcOk rc) {s:ByteArray} (hs:s.size≤1048576):0≤(rcA rc s).2∧(rcA rc s).2≤s.size:=vf hw hs 60 0 [] (jbE _) (ja7 _)
def spOS (n:ByteArray→Int):FSpec where
 pre args:=∃ s:ByteArray,s.size≤1048576∧args=[sArg s]
 res args:=match args with
  | [.val _ [.s s]]=>.val true [.s (s.extract 0 (n s).toNat),.i .i64 (n s)]
  | _=>.none
def spRO (rc:ByteArray→Int→List D × Int):FSpec where
 pre args:=∃ s:ByteArray,s.size≤1048576∧args=[sArg s]
 res args:=match args with
  | [.val _ [.s s]]=>.tup [(false,[.sl false 33 (rcA rc s).1]),(false,[.i .i64 (rcA rc s).2])]
  | _=>.none
theorem zi {a b:CV} {p q:List (List D) × Int} (h:q=p) (hc:a=.sl false 33 p.1) (he:b=.i .i64 p.2):[(false,[a]),(false,[b])]=[(false,[CV.sl false 33 q.1]),(false,[CV.i .i64 q.2])]:=by
 subst h hc he;rfl
set_option maxHeartbeats 8000000 in
theorem xo14 (rc:ByteArray→Int→List D × Int) (hw:RcOk rc) (hrc:FOk Tryz.prog T 35 (spPR cO rc)):FOk Tryz.prog T 14 (spRO rc):=by
 refine fok (env:=envL [(35,(spPR cO rc))]) (N:=29) tabT (aa hrc ae) mixed Tryz.func14 rfl Tryz.call14 Tryz.ntmps14 ?_
 rintro args ⟨s,hs,rfl⟩ hwf'
 clear hwf'
 refine ⟨by simp,?_⟩
 rw [Tryz.results14]
 repeat' first
  | (refine And.intro ?_ ?_)
  | (intro h;simp only [reduceCtorEq] at h;done)
  | (intro h;rw [h])
  | (intro h)
 all_goals first
  | (show ac _=true;kernel_rfl)|(show aj _ _=true;kernel_rfl)|exact True.intro|exact Or.inr rfl|exact Or.inl rfl
  | exact rfl
  | skip
 refine ar (Q:=_) [0,4,5] [] (fun m st=>∃ (o:List (List D)) (k:Int) (g:Nat),st=([sArg s,.val false [.sl true 33 o],iArg k],[])∧0≤k∧k≤s.size∧o.length≤60∧60≤g+o.length∧rcF rc s g k o=rcA rc s∧m=60 - o.length) ?_ ?_
 · exact ⟨rfl,60,[],0,60,rfl,jbE _,ja7 _,by decide,by decide,rfl,rfl⟩
 rintro m st ⟨o,k,g,rfl,h0,h1,hl,hg,hE,hm⟩
 obtain ⟨wo,so,hr0,hr1⟩:=hw s k hs
 have hr1:=hr1 h0 h1
 have w7:csD (rowC cO (rc s k).1)=(rc s k).1:=aC wo
 repeat' first
  | (refine And.intro ?_ ?_)
  | (intro h;simp only [reduceCtorEq] at h;done)
  | (intro h;rw [h])
  | (intro h)
 all_goals first
  | (show ac _=true;kernel_rfl)|(show aj _ _=true;kernel_rfl)|exact True.intro|exact Or.inr rfl|exact Or.inl rfl
  | exact rfl
  | exact ⟨_,_,hs,rfl⟩
  | (have hlt:o.length < 60:=by have:=jaT (show decide ((o.length:Int) < 60)=true by assumption);omega
     first
      | (show o.length+1≤maxLen;simp only [maxLen];omega)
      | (show (o.length+1) * 200≤_;omega)
      | (show aL [] _;exact rfl)
      | (have h5:((rc s k).2 == 0)=false:=by assumption
         obtain ⟨g',rfl,hE'⟩:=zu hlt h5 hg
         refine ⟨60 - (o.length+1),by omega,o++[(rc s k).1],k+(rc s k).2,g',?_,by omega,hr1,by rw [jaV];exact hlt,by rw [jaV];show 60≤g' + (o.length+1);omega,by rw [← hE'];exact hE,by rw [jaV];rfl⟩
         exact zd (f:=fun r z=>(([sArg s,.val false [.sl true 33 r],iArg z],[]):Snap)) (congrArg (fun r=>o++[r]) w7) (wrapA h0 hr0 hr1 hs))
      | (have h5:((rc s k).2 == 0)=true:=by assumption
         have h6:=eq_of_beq h5
         have hZ:rcA rc s=(o,k):=hE.symm.trans (oS (fun c=>c.2 h6))
         exact zi hZ rfl rfl))
  | (have h6:decide ((o.length:Int) < 60)=false:=by assumption
     have h7:=ja4 h6
     have hZ:rcA rc s=(o,k):=hE.symm.trans (oS (fun c=>h7 (by have:=c.1;omega)))
     exact zi hZ rfl rfl)
  | skip
set_option maxHeartbeats 8000000 in
theorem xo23 (rc:ByteArray→Int→List D × Int) (hw:RcOk rc) (hrc:FOk Tryz.prog T 14 (spRO rc)):FOk Tryz.prog T 23 (spOS fun s=>(rcA rc s).2):=by
 refine fok (env:=envL [(14,(spRO rc))]) (N:=15) tabT (aa hrc ae) mixed Tryz.func23 rfl Tryz.call23 Tryz.ntmps23 ?_
 rintro args ⟨s,hs,rfl⟩ hwf'
 clear hwf'
 obtain ⟨h0,h1⟩:=vg hw hs
 refine ⟨by simp,?_⟩
 rw [Tryz.results23]
 repeat' first
  | (refine And.intro ?_ ?_)
  | (intro h;simp only [reduceCtorEq] at h;done)
  | (intro h;rw [h])
  | (intro h)
 all_goals first
  | (show ac _=true;kernel_rfl)|(show aj _ _=true;kernel_rfl)|exact True.intro|exact Or.inr rfl|exact Or.inl rfl
  | exact rfl
  | exact ⟨_,hs,rfl⟩
  | with_reducible assumption
  | exact jbE _
  | skip
end Go.Proofs.YtkpnfbdoaljkpaaGreatDoor.Ab
