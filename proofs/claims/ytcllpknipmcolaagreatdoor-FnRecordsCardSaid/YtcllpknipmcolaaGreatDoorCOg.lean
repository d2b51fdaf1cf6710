/- The library's Cut and LastIndexByte as descriptions; what ParseOp reads is well -/
import Derived.Test.YtcllpknipmcolaaGreatDoorCZz
namespace Go.Proofs.YtcllpknipmcolaaGreatDoor.Ab
open Go.RowKit
set_option linter.all false
set_option maxRecDepth 100000
theorem qT (w:World) (n:Nat):Below w.heap.size w (w.drewN n):=⟨rfl,rfl,rfl,jcA _,fun _ _=>rfl⟩
theorem okCut:FOk Tryz.prog T 28 spCut:=by
 refine ⟨Tryz.call28,fun hb=>(by cases hb),fun _ w X args vals hX hargs hgl hpre=>?_,fun hb=>(by cases hb)⟩
 obtain ⟨s,hs,rfl⟩:=hpre
 obtain ⟨v,u,rfl,⟨rfl,_⟩,⟨rfl,_⟩⟩:=hargs.two_
 obtain ⟨_,_,u,hm,m,rfl⟩:=hgl.2 (1,false) (by decide)
 refine (Tryz.strings_Cut s NL m w (by omega) hm).mono ?_
 rintro e w' ⟨he,n,hw⟩
 refine ⟨_,fun _=>noB,he,?_,?_,(fun j b h=>by cases h),(fun j j2 b h=>by cases h)⟩
 · rw [hw];exact qT w n
 · refine ⟨[.string (cutL s),.string (cutR s),.bool (cutF s)],rfl,rfl,fun j p x hp hx=>?_⟩
   match j with
   | 0 =>
     obtain rfl:=jcn hp
     obtain rfl:=jcn hx
     exact TupR.of_arg ⟨_,rfl,rfl,jcr (nJ s) (jcr hs (by decide))⟩
   | 1 =>
     obtain rfl:=jcn hp
     obtain rfl:=jcn hx
     exact TupR.of_arg ⟨_,rfl,rfl,jcr (ue s) (jcr hs (by decide))⟩
   | 2 =>
     obtain rfl:=jcn hp
     obtain rfl:=jcn hx
     exact TupR.of_arg ⟨_,rfl,rfl⟩
   | j+3=>simp at hp
theorem okLast:FOk Tryz.prog T 29 spLast:=by
 refine ⟨Tryz.call29,fun hb=>(by cases hb),fun _ w X args vals hX hargs hgl hpre=>?_,fun hb=>(by cases hb)⟩
 obtain ⟨s,hs,rfl⟩:=hpre
 obtain ⟨v,u,rfl,⟨rfl,_⟩,⟨rfl,_⟩⟩:=hargs.two_
 refine (Tryz.strings_LastIndexByte s 32 (by omega) w).mono ?_
 rintro e w' ⟨he,hw⟩
 have h1:IntKind.i64.min = -9223372036854775808:=by decide
 have h2:IntKind.i64.max=9223372036854775807:=by decide
 have hl:=tm s
 exact ⟨_,fun _=>noB,he,hw ▸ Below.refl _ _,⟨_,rfl,rfl,by rw [inK,h1,h2];omega⟩,(fun j b h=>by cases h),(fun j j2 b h=>by cases h)⟩
def PoOk (po:ByteArray→List D × Bool):Prop:=∀ t,t.size≤1048576→WfRow T cO (po t).1∧SmO (po t).1
theorem zero_ok:WfRow T cO bS∧SmO bS:=by
 have z:inK .i64 0:=k0 0 (by decide) (by decide)
 exact xJ z z z (jcl _) (fun r h=>absurd h jco) z z z z z (jcl _) (jcl _) z (jcl _) (jcl _) z z (jcl _) (fun r h=>absurd h jco)
theorem sD {pv:ByteArray→List D × Bool} (hw:∀ t,t.size≤1048576→WfRow T cV (pv t).1∧wRow (pv t).1≤2097152) {rows:List (List D)} (hs:SmW rows) {c:Int}:∀ (m i:Nat) (out:List (List D)),(∀ r ∈ out,RdOk r)→out.length=i→5 * i≤rows.length →
 (∀ r ∈ rdsS pv rows c m i out,RdOk r)∧5 * (rdsS pv rows c m i out).length≤rows.length
 | 0,i,out,h,hl,hi=>⟨h,by rw [rdsS,hl];exact hi⟩
 | m+1,i,out,h,hl,hi=>by
   rw [rdsS]
   split
   · rename_i hc
     refine sD hw hs m (i+1) _ (fun r hr=>?_) (by rw [jcm,hl];rfl) (by omega)
     rcases jcU.1 hr with hr|hr
     · exact h r hr
     · rw [jdb.1 hr];exact oj hs hw _
   · exact ⟨h,by rw [hl];exact hi⟩
theorem ja2 (o:List D) (e:Bool) (s:ByteArray):(poOf o e s).1=o∨(poOf o e s).1=bS:=by
 unfold poOf
 split
 · exact .inl rfl
 · exact .inr rfl
theorem ja0 {pv:ByteArray→List D × Bool} (hw:∀ t,t.size≤1048576→WfRow T cV (pv t).1∧wRow (pv t).1≤2097152):PoOk (poS pv):=by
 intro t ht
 have sm:=smW t ht
 have hl:=lM t ht
 obtain ⟨h1,h2⟩:=sD (c:=numS (ac (ah t)) 18) hw sm ((ac (ah t)).length+1) 0 [] (fun r h=>absurd h jco) rfl (jcl _)
 unfold poS
 rcases ja2 (opS (ac (ah t)) (rdsS pv (ac (ah t)) (numS (ac (ah t)) 18) ((ac (ah t)).length+1) 0 [])) (!(t.toList == [])) t with e|e
 · rw [e];exact wY sm (by omega) h1
 · rw [e];exact zero_ok
theorem FOk.po_same {P:Program} {f:FuncId} {cts:List CT} {po po' : ByteArray→List D × Bool} (he:∀ s,s.size≤1048576→po' s=po s) (h:FOk P T f (cZ cts po')):FOk P T f (cZ cts po):=by
 refine ⟨h.call,fun hb=>(by cases hb),fun _ w X args vals a1 a2 a3 hpre=>?_,fun hb=>(by cases hb)⟩
 obtain ⟨s,hs,rfl⟩:=hpre
 have:=h.ok rfl w X _ vals a1 a2 a3 ⟨s,hs,rfl⟩
 show Calls P f vals.toArray w _
 have e:(cZ cts po').res [sArg s]=(cZ cts po).res [sArg s]:=by
  show SV.tup [(true,rowC cts (po' s).1),(false,[.b (po' s).2])]=SV.tup [(true,rowC cts (po s).1),(false,[.b (po s).2])]
  rw [he s hs]
 rw [e] at this
 exact this
theorem jaQ {po:ByteArray→List D × Bool} (hp:PoOk po) {s:ByteArray} (hs:s.size≤1048576) (k:Int):WfRow T cO (recS po s k).1∧SmO (recS po s k).1∧0≤(recS po s k).2∧(0≤k→k≤s.size→k+(recS po s k).2≤s.size):=by
 unfold recS
 split
 · rename_i hk
   obtain ⟨n,rfl⟩:=jdl hk.1
   rw [jcG]
   have hn:n≤s.size:=by omega
   obtain ⟨a,b,c,d⟩:=dL (s:=s) s.size n hn (by omega)
   have a' : n≤eolK s n:=a
   have b' : eolK s n≤s.size:=b
   unfold recN
   split
   · exact ⟨zero_ok.1,zero_ok.2,jc5 _,fun _ h=>by simpa using h⟩
   · rename_i he
     split
     · have:=hp (s.extract n (spK s n - 1)) (by rw [jcJ];omega)
       exact ⟨this.1,this.2,jcy _,fun _ _=>by show (n:Int)+((eolK s n+1 - n:Nat):Int)≤_;omega⟩
     · exact ⟨zero_ok.1,zero_ok.2,jc5 _,fun _ h=>by simpa using h⟩
 · exact ⟨zero_ok.1,zero_ok.2,jc5 _,fun _ h=>by simpa using h⟩
theorem om {cts:List CT} {p q:List D × Int} {cs:List CV} {e:Int} (h:q=p) (hc:cs=rowC cts p.1) (he:e=p.2):[(true,cs),(false,[CV.i .i64 e])]=[(true,rowC cts q.1),(false,[CV.i .i64 q.2])]:=by
 subst h hc he;rfl
theorem yq {po:ByteArray→List D × Bool} {s:ByteArray} {n e p:Nat} (hn:n≤s.size) (he:eolK s n=e) (hp:spK s n=p):recS po s (n:Int)=recN po s n e p:=by
 unfold recS
 rw [if_pos ⟨jcy _,by omega⟩,jcG,he,hp]
section
variable {po:ByteArray→List D × Bool} {s x y:ByteArray} {n e p:Nat}
end
theorem wrap1 {e:Nat} (he:e≤1048576):IntKind.i64.wrap ((e:Int)+1)=((e+1:Nat):Int):=by
 rw [IntKind.wrap_i64];omega
end Go.Proofs.YtcllpknipmcolaaGreatDoor.Ab
namespace Go.Proofs.YtcllpknipmcolaaGreatDoor.Ab
open Go.RowKit
set_option linter.all false
section
variable (rc:ByteArray→Int→List D × Int) (s:ByteArray)
end
def RcOk (rc:ByteArray→Int→List D × Int):Prop:=∀ s k,s.size≤1048576→WfRow T cO (rc s k).1∧SmO (rc s k).1∧0≤(rc s k).2∧(0≤k→k≤s.size→k+(rc s k).2≤s.size)
theorem yp {po:ByteArray→List D × Bool} (hp:PoOk po):RcOk (recS po):=fun s k hs=>jaQ hp hs k
theorem wrapA {k r:Int} {n:Nat} (h0:0≤k) (h1:0≤r) (h:k+r≤n) (hn:n≤1048576):IntKind.i64.wrap (k+r)=k+r:=by
 rw [IntKind.wrap_i64];omega
theorem FOk.rc_same {P:Program} {f:FuncId} {cts:List CT} {rc rc' : ByteArray→Int→List D × Int} (he:∀ s k,s.size≤1048576→rc' s k=rc s k) (h:FOk P T f (spPR cts rc')):FOk P T f (spPR cts rc):=by
 refine ⟨h.call,fun hb=>(by cases hb),fun _ w X args vals a1 a2 a3 hpre=>?_,fun hb=>(by cases hb)⟩
 obtain ⟨s,k,hs,rfl⟩:=hpre
 have:=h.ok rfl w X _ vals a1 a2 a3 ⟨s,k,hs,rfl⟩
 show Calls P f vals.toArray w _
 have e:(spPR cts rc').res [sArg s,iArg k]=(spPR cts rc).res [sArg s,iArg k]:=by
  show SV.tup [(true,rowC cts (rc' s k).1),(false,[.i .i64 (rc' s k).2])]=SV.tup [(true,rowC cts (rc s k).1),(false,[.i .i64 (rc s k).2])]
  rw [he s k hs]
 rw [e] at this
 exact this
end Go.Proofs.YtcllpknipmcolaaGreatDoor.Ab
