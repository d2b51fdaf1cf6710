/- The library's Cut and LastIndexByte as descriptions; what ParseOp reads is well formed. And what belongs to it. -/
import Derived.Test.YtppgalpldaibhaaGreatDoorCPB
import Derived.Test.YtppgalpldaibhaaGreatDoorCZz
import Derived.Test.YtppgalpldaibhaaGreatDoorCPb
namespace Go.Proofs.YtppgalpldaibhaaGreatDoor.Ab
open Go.RowKit
set_option linter.unusedVariables false
set_option maxRecDepth 100000
theorem drew_below (w:World) (n:Nat):Below w.heap.size w (w.drewN n):=⟨rfl,rfl,rfl,Nat.le_refl _,fun _ _=>rfl⟩
theorem okCut:FOk Tryz.prog T 112 spCut:=by
  refine ⟨Tryz.call112,fun hb=>(by cases hb),fun _ w X args vals hX hargs hgl hpre=>?_,fun hb=>(by cases hb)⟩
  obtain ⟨s,hs,rfl⟩:=hpre
  obtain ⟨v,u,rfl,⟨rfl,_⟩,⟨rfl,_⟩⟩:=hargs.two_
  obtain ⟨_,_,u,hm,m,rfl⟩:=hgl.2 (1,false) (by decide)
  refine (Tryz.strings_Cut s NL m w (by omega) hm).mono ?_
  rintro e w' ⟨he,n,hw⟩
  refine ⟨_,fun _=>noB,he,?_,?_,(fun j b h=>by cases h),(fun j j2 b h=>by cases h)⟩
  · rw [hw];exact drew_below w n
  · refine ⟨[.string (cutL s),.string (cutR s),.bool (cutF s)],rfl,rfl,fun j p x hp hx=>?_⟩
    match j with
    | 0 =>
      obtain rfl:=Option.some.inj hp
      obtain rfl:=Option.some.inj hx
      exact TupR.of_arg ⟨_,rfl,rfl,Nat.le_trans (cutL_size s) (Nat.le_trans hs (by decide))⟩
    | 1 =>
      obtain rfl:=Option.some.inj hp
      obtain rfl:=Option.some.inj hx
      exact TupR.of_arg ⟨_,rfl,rfl,Nat.le_trans (cutR_size s) (Nat.le_trans hs (by decide))⟩
    | 2 =>
      obtain rfl:=Option.some.inj hp
      obtain rfl:=Option.some.inj hx
      exact TupR.of_arg ⟨_,rfl,rfl⟩
    | j+3=>simp at hp
theorem okLast:FOk Tryz.prog T 113 spLast:=by
  refine ⟨Tryz.call113,fun hb=>(by cases hb),fun _ w X args vals hX hargs hgl hpre=>?_,fun hb=>(by cases hb)⟩
  obtain ⟨s,hs,rfl⟩:=hpre
  obtain ⟨v,u,rfl,⟨rfl,_⟩,⟨rfl,_⟩⟩:=hargs.two_
  refine (Tryz.strings_LastIndexByte s 32 (by omega) w).mono ?_
  rintro e w' ⟨he,hw⟩
  have h1:IntKind.i64.min = -9223372036854775808:=by decide
  have h2:IntKind.i64.max=9223372036854775807:=by decide
  have hl:=last_in s
  exact ⟨_,fun _=>noB,he,hw ▸ Below.refl _ _,⟨_,rfl,rfl,by rw [inK,h1,h2];omega⟩,(fun j b h=>by cases h),(fun j j2 b h=>by cases h)⟩
def PoOk (po:ByteArray→List D × Bool):Prop:=∀ t,t.size≤1048576→WfRow T cO (po t).1∧SmO (po t).1
theorem zero_ok:WfRow T cO zeroOp∧SmO zeroOp:=by
  have z:inK .i64 0:=k0 0 (by decide) (by decide)
  exact wf_op z z z (Nat.zero_le _) (fun r h=>absurd h List.not_mem_nil) z z z z z (Nat.zero_le _) (Nat.zero_le _) z (Nat.zero_le _) (Nat.zero_le _) z z (Nat.zero_le _) (fun r h=>absurd h List.not_mem_nil)
theorem rdsS_ok {pv:ByteArray→List D × Bool} (hw:∀ t,t.size≤1048576→WfRow T cV (pv t).1∧wRow (pv t).1≤2097152) {rows:List (List D)} (hs:SmW rows) {c:Int}:∀ (m i:Nat) (out:List (List D)),(∀ r ∈ out,RdOk r)→out.length=i→5 * i≤rows.length →
    (∀ r ∈ rdsS pv rows c m i out,RdOk r)∧5 * (rdsS pv rows c m i out).length≤rows.length
  | 0,i,out,h,hl,hi=>⟨h,by rw [rdsS,hl];exact hi⟩
  | m+1,i,out,h,hl,hi=>by
    rw [rdsS]
    split
    · rename_i hc
      refine rdsS_ok hw hs m (i+1) _ (fun r hr=>?_) (by rw [List.length_append,hl];rfl) (by omega)
      rcases List.mem_append.1 hr with hr|hr
      · exact h r hr
      · rw [List.mem_singleton.1 hr];exact rowS_ok hs hw _
    · exact ⟨h,by rw [hl];exact hi⟩
theorem poOf_1 (o:List D) (e:Bool) (s:ByteArray):(poOf o e s).1=o∨(poOf o e s).1=zeroOp:=by
  unfold poOf
  split
  · exact .inl rfl
  · exact .inr rfl
theorem poS_ok {pv:ByteArray→List D × Bool} (hw:∀ t,t.size≤1048576→WfRow T cV (pv t).1∧wRow (pv t).1≤2097152):PoOk (poS pv):=by
  intro t ht
  have sm:=smW t ht
  have hl:=rows_le t ht
  obtain ⟨h1,h2⟩:=rdsS_ok (c:=numS (strRows (wordsB t)) 18) hw sm ((strRows (wordsB t)).length+1) 0 [] (fun r h=>absurd h List.not_mem_nil) rfl (Nat.zero_le _)
  unfold poS
  rcases poOf_1 (opS (strRows (wordsB t)) (rdsS pv (strRows (wordsB t)) (numS (strRows (wordsB t)) 18) ((strRows (wordsB t)).length+1) 0 [])) (!(t.toList == [])) t with e|e
  · rw [e];exact opS_wf sm (by omega) h1
  · rw [e];exact zero_ok
theorem FOk.po_same {P:Program} {f:FuncId} {cts:List CT} {po po' : ByteArray→List D × Bool} (he:∀ s,s.size≤1048576→po' s=po s) (h:FOk P T f (spPV2 cts po')):FOk P T f (spPV2 cts po):=by
  refine ⟨h.call,fun hb=>(by cases hb),fun _ w X args vals a1 a2 a3 hpre=>?_,fun hb=>(by cases hb)⟩
  obtain ⟨s,hs,rfl⟩:=hpre
  have:=h.ok rfl w X _ vals a1 a2 a3 ⟨s,hs,rfl⟩
  show Calls P f vals.toArray w _
  have e:(spPV2 cts po').res [sArg s]=(spPV2 cts po).res [sArg s]:=by
    show SV.tup [(true,rowC cts (po' s).1),(false,[.b (po' s).2])]=SV.tup [(true,rowC cts (po s).1),(false,[.b (po s).2])]
    rw [he s hs]
  rw [e] at this
  exact this
theorem rec_ok {po:ByteArray→List D × Bool} (hp:PoOk po) {s:ByteArray} (hs:s.size≤1048576) (k:Int):WfRow T cO (recS po s k).1∧SmO (recS po s k).1∧0≤(recS po s k).2∧(0≤k→k≤s.size→k+(recS po s k).2≤s.size):=by
  unfold recS
  split
  · rename_i hk
    obtain ⟨n,rfl⟩:=Int.eq_ofNat_of_zero_le hk.1
    rw [Int.toNat_natCast]
    have hn:n≤s.size:=by omega
    obtain ⟨a,b,c,d⟩:=eolN_spec (s:=s) s.size n hn (by omega)
    have a' : n≤eolK s n:=a
    have b' : eolK s n≤s.size:=b
    unfold recN
    split
    · exact ⟨zero_ok.1,zero_ok.2,Int.le_refl _,fun _ h=>by simpa using h⟩
    · rename_i he
      split
      · have:=hp (s.extract n (spK s n - 1)) (by rw [ByteArray.size_extract];omega)
        exact ⟨this.1,this.2,Int.natCast_nonneg _,fun _ _=>by show (n:Int)+((eolK s n+1 - n:Nat):Int)≤_;omega⟩
      · exact ⟨zero_ok.1,zero_ok.2,Int.le_refl _,fun _ h=>by simpa using h⟩
  · exact ⟨zero_ok.1,zero_ok.2,Int.le_refl _,fun _ h=>by simpa using h⟩
theorem resVP {cts:List CT} {p q:List D × Int} {cs:List CV} {e:Int} (h:q=p) (hc:cs=rowC cts p.1) (he:e=p.2):[(true,cs),(false,[CV.i .i64 e])]=[(true,rowC cts q.1),(false,[CV.i .i64 q.2])]:=by
  subst h hc he;rfl
theorem recS_out {po:ByteArray→List D × Bool} {s:ByteArray} {k:Int} (h:(!inR k 0 (s.size:Int))=true):recS po s k=(zeroOp,0):=by
  have:=of_notT h
  unfold inR at this
  unfold recS
  rw [if_neg]
  rintro ⟨a,b⟩
  rw [Bool.and_eq_false_iff,decide_eq_false_iff_not,decide_eq_false_iff_not] at this
  omega
theorem inR_nat {k:Int} {n:Nat} (h:(!inR k 0 (n:Int))=false):∃ j:Nat,k=j∧j≤n:=by
  have:=of_notF h
  unfold inR at this
  rw [Bool.and_eq_true,decide_eq_true_eq,decide_eq_true_eq] at this
  exact ⟨k.toNat,by omega,by omega⟩
theorem eolN_stop {s:ByteArray} {f e:Nat} (h:¬ (e < s.size∧byt s e ≠ 10)):eolN s f e=e:=by
  cases f with
  | zero=>rfl
  | succ f=>rw [eolN,if_neg h]
theorem eolN_go {s:ByteArray} {f e:Nat} (h:e < s.size) (h2:byt s e ≠ 10) (hf:s.size≤e+f):∃ g,f=g+1∧eolN s f e=eolN s g (e+1):=by
  obtain ⟨g,rfl⟩:∃ g,f=g+1:=⟨f - 1,by omega⟩
  exact ⟨g,rfl,by rw [eolN,if_pos ⟨h,h2⟩]⟩
theorem spN_stop {s:ByteArray} {k p:Nat} (hk:k≤p) (h:¬ (k < p∧byt s (p - 1) ≠ 32)):spN s k p=p:=by
  cases p with
  | zero=>rfl
  | succ p=>rw [spN];exact if_neg h
theorem spN_go {s:ByteArray} {k p:Nat} (h1:k < p) (h2:byt s (p - 1) ≠ 32):spN s k p=spN s k (p - 1):=by
  obtain ⟨q,rfl⟩:∃ q,p=q+1:=⟨p - 1,by omega⟩
  rw [spN]
  exact if_pos ⟨h1,h2⟩
theorem recS_in {po:ByteArray→List D × Bool} {s:ByteArray} {n e p:Nat} (hn:n≤s.size) (he:eolK s n=e) (hp:spK s n=p):recS po s (n:Int)=recN po s n e p:=by
  unfold recS
  rw [if_pos ⟨Int.natCast_nonneg _,by omega⟩,Int.toNat_natCast,he,hp]
theorem snapZ {f:Int→Snap} {a b:Int} (h:a=b):f a=f b:=by rw [h]
theorem ne10 {s:ByteArray} {e:Nat} (h:(((s.data.getD (Int.toNat (e:Int)) 0).toNat:Int) != 10)=true):byt s e ≠ 10:=by
  intro h2
  rw [bne_iff_ne] at h
  apply h
  show ((byt s e:Nat):Int)=10
  rw [h2];rfl
theorem is10 {s:ByteArray} {e:Nat} (h:(((s.data.getD (Int.toNat (e:Int)) 0).toNat:Int) != 10)=false):byt s e=10:=by
  have h2:=bne_eq_false_iff_eq.1 h
  exact_mod_cast h2
theorem wrapD {n p:Nat} (h:n < p) (hp:p≤1048576):IntKind.i64.wrap ((p:Int) - 1)=((p - 1:Nat):Int):=by
  rw [IntKind.wrap_i64];omega
theorem ne32 {s:ByteArray} {n p:Nat} (h0:n < p) (hp:p≤1048576) (h:(((s.data.getD (Int.toNat (IntKind.i64.wrap ((p:Int) - 1))) 0).toNat:Int) != 32)=true):byt s (p - 1) ≠ 32:=by
  rw [wrapD h0 hp] at h
  intro h2
  rw [bne_iff_ne] at h
  apply h
  show ((byt s (p - 1):Nat):Int)=32
  rw [h2];rfl
theorem is32 {s:ByteArray} {n p:Nat} (h0:n < p) (hp:p≤1048576) (h:(((s.data.getD (Int.toNat (IntKind.i64.wrap ((p:Int) - 1))) 0).toNat:Int) != 32)=false):byt s (p - 1)=32:=by
  rw [wrapD h0 hp] at h
  have h2:=bne_eq_false_iff_eq.1 h
  exact_mod_cast h2
section
variable {po:ByteArray→List D × Bool} {s x y:ByteArray} {n e p:Nat}
theorem recN_1 (h:((e:Int) == (s.size:Int))=true):recN po s n e p=(zeroOp,0):=by
  unfold recN
  rw [if_pos (.inl (by have:=eq_of_beq h;omega))]
theorem recN_2 (h:((p:Int) == (n:Int))=true):recN po s n e p=(zeroOp,0):=by
  unfold recN
  rw [if_pos (.inr (by have:=eq_of_beq h;omega))]
theorem recN_3 (hx:x=s.extract n (p - 1)) (h:(!(po x).2)=true):recN po s n e p=(zeroOp,0):=by
  unfold recN
  rw [← hx]
  split
  · rfl
  · rw [if_neg (fun c=>by rw [c.1] at h;cases h)]
theorem recN_4 (hx:x=s.extract n (p - 1)) (hy:y=s.extract n (e+1)) (h:(!(recT (opText (po x).1)).toList == y.toList)=true):recN po s n e p=(zeroOp,0):=by
  unfold recN
  rw [← hx, ← hy]
  split
  · rfl
  · rw [if_neg (fun c=>by rw [c.2] at h;simp at h)]
theorem recN_5 (h1:((e:Int) == (s.size:Int))=false) (h2:((p:Int) == (n:Int))=false) (hx:x=s.extract n (p - 1)) (hy:y=s.extract n (e+1)) (h3:(!(po x).2)=false) (h:(!(recT (opText (po x).1)).toList == y.toList)=false):recN po s n e p=((po x).1,((e+1 - n:Nat):Int)):=by
  unfold recN
  rw [← hx, ← hy]
  rw [beq_eq_false_iff_ne] at h1 h2
  rw [if_neg (by omega),if_pos ⟨of_notF h3,(str_inj _ _).mp (eq_of_beq (of_notF h))⟩]
end
theorem wrapE {e n:Nat} (h:n≤e) (he:e≤1048576):IntKind.i64.wrap (IntKind.i64.wrap ((e:Int)+1) - (n:Int))=((e+1 - n:Nat):Int):=by
  rw [IntKind.wrap_i64,IntKind.wrap_i64];omega
theorem wrap1 {e:Nat} (he:e≤1048576):IntKind.i64.wrap ((e:Int)+1)=((e+1:Nat):Int):=by
  rw [IntKind.wrap_i64];omega
end Go.Proofs.YtppgalpldaibhaaGreatDoor.Ab
namespace Go.Proofs.YtppgalpldaibhaaGreatDoor.Ab
open Go.RowKit
set_option linter.unusedVariables false
section
variable (rc:ByteArray→Int→List D × Int) (s:ByteArray)
def rcF:Nat→Int→List (List D)→List (List D) × Int
  | 0,k,out=>(out,k)
  | m+1,k,out=>if out.length < 60∧(rc s k).2 ≠ 0 then rcF m (k+(rc s k).2) (out++[(rc s k).1]) else (out,k)
def rcA:List (List D) × Int:=rcF rc s 60 0 []
end
def RcOk (rc:ByteArray→Int→List D × Int):Prop:=∀ s k,s.size≤1048576→WfRow T cO (rc s k).1∧SmO (rc s k).1∧0≤(rc s k).2∧(0≤k→k≤s.size→k+(rc s k).2≤s.size)
theorem recS_rc {po:ByteArray→List D × Bool} (hp:PoOk po):RcOk (recS po):=fun s k hs=>rec_ok hp hs k
theorem rcF_go {rc:ByteArray→Int→List D × Int} {s:ByteArray} {m:Nat} {k:Int} {out:List (List D)} (h:out.length < 60) (h2:((rc s k).2 == 0)=false) (hm:60≤m+out.length):∃ g,m=g+1∧rcF rc s m k out=rcF rc s g (k+(rc s k).2) (out++[(rc s k).1]):=by
  obtain ⟨g,rfl⟩:∃ g,m=g+1:=⟨m - 1,by omega⟩
  exact ⟨g,rfl,by rw [rcF,if_pos ⟨h,beq_eq_false_iff_ne.1 h2⟩]⟩
theorem rcF_stop {rc:ByteArray→Int→List D × Int} {s:ByteArray} {m:Nat} {k:Int} {out:List (List D)} (h:¬ (out.length < 60∧(rc s k).2 ≠ 0)):rcF rc s m k out=(out,k):=by
  cases m with
  | zero=>rfl
  | succ m=>rw [rcF,if_neg h]
theorem wrapA {k r:Int} {n:Nat} (h0:0≤k) (h1:0≤r) (h:k+r≤n) (hn:n≤1048576):IntKind.i64.wrap (k+r)=k+r:=by
  rw [IntKind.wrap_i64];omega
theorem snapRI {f:List (List D)→Int→Snap} {r r' : List (List D)} {a a' : Int} (h:r=r') (h2:a=a'):f r a=f r' a' := by rw [h,h2]
theorem FOk.rc_same {P:Program} {f:FuncId} {cts:List CT} {rc rc' : ByteArray→Int→List D × Int} (he:∀ s k,s.size≤1048576→rc' s k=rc s k) (h:FOk P T f (spPR cts rc')):FOk P T f (spPR cts rc):=by
  refine ⟨h.call,fun hb=>(by cases hb),fun _ w X args vals a1 a2 a3 hpre=>?_,fun hb=>(by cases hb)⟩
  obtain ⟨s,k,hs,rfl⟩:=hpre
  have:=h.ok rfl w X _ vals a1 a2 a3 ⟨s,k,hs,rfl⟩
  show Calls P f vals.toArray w _
  have e:(spPR cts rc').res [sArg s,iArg k]=(spPR cts rc).res [sArg s,iArg k]:=by
    show SV.tup [(true,rowC cts (rc' s k).1),(false,[.i .i64 (rc' s k).2])]=SV.tup [(true,rowC cts (rc s k).1),(false,[.i .i64 (rc s k).2])]
    rw [he s k hs]
  rw [e] at this
  exact this
theorem rcF_in {rc:ByteArray→Int→List D × Int} (hw:RcOk rc) {s:ByteArray} (hs:s.size≤1048576):∀ (m:Nat) (k:Int) (out:List (List D)),0≤k→k≤s.size→0≤(rcF rc s m k out).2∧(rcF rc s m k out).2≤s.size
  | 0,k,out,h0,h1=>⟨h0,h1⟩
  | m+1,k,out,h0,h1=>by
    rw [rcF]
    split
    · have:=hw s k hs
      exact rcF_in hw hs m _ _ (by omega) (this.2.2.2 h0 h1)
    · exact ⟨h0,h1⟩
theorem rcA_in {rc:ByteArray→Int→List D × Int} (hw:RcOk rc) {s:ByteArray} (hs:s.size≤1048576):0≤(rcA rc s).2∧(rcA rc s).2≤s.size:=rcF_in hw hs 60 0 [] (Int.le_refl _) (Int.natCast_nonneg _)
def spOS (n:ByteArray→Int):FSpec where
  pre args:=∃ s:ByteArray,s.size≤1048576∧args=[sArg s]
  res args:=match args with
    | [.val _ [.s s]]=>.val true [.s (s.extract 0 (n s).toNat),.i .i64 (n s)]
    | _=>.none
def spEqS:FSpec where
  pre args:=∃ (a b:ByteArray) (n m:Int),args=[.val true [.s a,.i .i64 n],.val true [.s b,.i .i64 m]]
  res args:=match args with
    | [.val _ [.s a,.i _ n],.val _ [.s b,.i _ m]]=>.val false [.b (a.toList == b.toList && n == m)]
    | _=>.none
def spLaw1:FSpec where
  pre args:=∃ s:ByteArray,args=[sArg s]
  res args:=.val false [.b true]
end Go.Proofs.YtppgalpldaibhaaGreatDoor.Ab
namespace Go.Proofs.YtppgalpldaibhaaGreatDoor.Ab
open Go.RowKit
set_option linter.unusedVariables false
set_option linter.unusedSimpArgs false
set_option maxRecDepth 100000
set_option maxHeartbeats 2000000
def spRO (rc:ByteArray→Int→List D × Int):FSpec where
  pre args:=∃ s:ByteArray,s.size≤1048576∧args=[sArg s]
  res args:=match args with
    | [.val _ [.s s]]=>.tup [(false,[.sl false 51 (rcA rc s).1]),(false,[.i .i64 (rcA rc s).2])]
    | _=>.none
theorem resRO {a b:CV} {p q:List (List D) × Int} (h:q=p) (hc:a=.sl false 51 p.1) (he:b=.i .i64 p.2):[(false,[a]),(false,[b])]=[(false,[CV.sl false 51 q.1]),(false,[CV.i .i64 q.2])]:=by
  subst h hc he;rfl
set_option maxHeartbeats 8000000 in
theorem xo39 (rc:ByteArray→Int→List D × Int) (hw:RcOk rc) (hrc:FOk Tryz.prog T 37 (spPR cO rc)):FOk Tryz.prog T 39 (spRO rc):=by
  refine fok (env:=envL [(37,(spPR cO rc))]) (N:=29) tabT (envL_cons hrc envL_nil) mixed Tryz.func39 rfl Tryz.call39 Tryz.ntmps39 ?_
  rintro args ⟨s,hs,rfl⟩ hwf'
  clear hwf'
  refine ⟨by simp,?_⟩
  rw [Tryz.results39]
  repeat' first
    | (refine And.intro ?_ ?_)
    | (intro h;simp only [reduceCtorEq] at h;done)
    | (intro h;rw [h])
    | (intro h)
  all_goals first
    | (show lowEdges _=true;kernel_rfl)|(show logOk _ _=true;kernel_rfl)|exact True.intro|exact Or.inr rfl|exact Or.inl rfl
    | exact rfl
    | skip
  refine awp_loop (Q:=_) [0,4,5] [] (fun m st=>∃ (o:List (List D)) (k:Int) (g:Nat),st=([sArg s,.val false [.sl true 51 o],iArg k],[])∧0≤k∧k≤s.size∧o.length≤60∧60≤g+o.length∧rcF rc s g k o=rcA rc s∧m=60 - o.length) ?_ ?_
  · exact ⟨rfl,60,[],0,60,rfl,Int.le_refl _,Int.natCast_nonneg _,by decide,by decide,rfl,rfl⟩
  rintro m st ⟨o,k,g,rfl,h0,h1,hl,hg,hE,hm⟩
  obtain ⟨wo,so,hr0,hr1⟩:=hw s k hs
  have hr1:=hr1 h0 h1
  have w7:csD (rowC cO (rc s k).1)=(rc s k).1:=csD_rowC wo
  repeat' first
    | (refine And.intro ?_ ?_)
    | (intro h;simp only [reduceCtorEq] at h;done)
    | (intro h;rw [h])
    | (intro h)
  all_goals first
    | (show lowEdges _=true;kernel_rfl)|(show logOk _ _=true;kernel_rfl)|exact True.intro|exact Or.inr rfl|exact Or.inl rfl
    | exact rfl
    | exact ⟨_,_,hs,rfl⟩
    | (have hlt:o.length < 60:=by have:=of_decide_eq_true (show decide ((o.length:Int) < 60)=true by assumption);omega
       first
         | (show o.length+1≤maxLen;simp only [maxLen];omega)
         | (show (o.length+1) * 200≤_;omega)
         | (show Alive [] _;exact rfl)
         | (have h5:((rc s k).2 == 0)=false:=by assumption
            obtain ⟨g',rfl,hE'⟩:=rcF_go hlt h5 hg
            refine ⟨60 - (o.length+1),by omega,o++[(rc s k).1],k+(rc s k).2,g',?_,by omega,hr1,by rw [List.length_append];exact hlt,by rw [List.length_append];show 60≤g' + (o.length+1);omega,by rw [← hE'];exact hE,by rw [List.length_append];rfl⟩
            exact snapRI (f:=fun r z=>(([sArg s,.val false [.sl true 51 r],iArg z],[]):Snap)) (congrArg (fun r=>o++[r]) w7) (wrapA h0 hr0 hr1 hs))
         | (have h5:((rc s k).2 == 0)=true:=by assumption
            have h6:=eq_of_beq h5
            have hZ:rcA rc s=(o,k):=hE.symm.trans (rcF_stop (fun c=>c.2 h6))
            exact resRO hZ rfl rfl))
    | (have h6:decide ((o.length:Int) < 60)=false:=by assumption
       have h7:=of_decide_eq_false h6
       have hZ:rcA rc s=(o,k):=hE.symm.trans (rcF_stop (fun c=>h7 (by have:=c.1;omega)))
       exact resRO hZ rfl rfl)
    | skip
set_option maxHeartbeats 8000000 in
theorem xo40 (rc:ByteArray→Int→List D × Int) (hw:RcOk rc) (hrc:FOk Tryz.prog T 38 (spPR cO rc)):FOk Tryz.prog T 40 (spRO rc):=by
  refine fok (env:=envL [(38,(spPR cO rc))]) (N:=29) tabT (envL_cons hrc envL_nil) mixed Tryz.func40 rfl Tryz.call40 Tryz.ntmps40 ?_
  rintro args ⟨s,hs,rfl⟩ hwf'
  clear hwf'
  refine ⟨by simp,?_⟩
  rw [Tryz.results40]
  repeat' first
    | (refine And.intro ?_ ?_)
    | (intro h;simp only [reduceCtorEq] at h;done)
    | (intro h;rw [h])
    | (intro h)
  all_goals first
    | (show lowEdges _=true;kernel_rfl)|(show logOk _ _=true;kernel_rfl)|exact True.intro|exact Or.inr rfl|exact Or.inl rfl
    | exact rfl
    | skip
  refine awp_loop (Q:=_) [0,4,5] [] (fun m st=>∃ (o:List (List D)) (k:Int) (g:Nat),st=([sArg s,.val false [.sl true 51 o],iArg k],[])∧0≤k∧k≤s.size∧o.length≤60∧60≤g+o.length∧rcF rc s g k o=rcA rc s∧m=60 - o.length) ?_ ?_
  · exact ⟨rfl,60,[],0,60,rfl,Int.le_refl _,Int.natCast_nonneg _,by decide,by decide,rfl,rfl⟩
  rintro m st ⟨o,k,g,rfl,h0,h1,hl,hg,hE,hm⟩
  obtain ⟨wo,so,hr0,hr1⟩:=hw s k hs
  have hr1:=hr1 h0 h1
  have w7:csD (rowC cO (rc s k).1)=(rc s k).1:=csD_rowC wo
  repeat' first
    | (refine And.intro ?_ ?_)
    | (intro h;simp only [reduceCtorEq] at h;done)
    | (intro h;rw [h])
    | (intro h)
  all_goals first
    | (show lowEdges _=true;kernel_rfl)|(show logOk _ _=true;kernel_rfl)|exact True.intro|exact Or.inr rfl|exact Or.inl rfl
    | exact rfl
    | exact ⟨_,_,hs,rfl⟩
    | (have hlt:o.length < 60:=by have:=of_decide_eq_true (show decide ((o.length:Int) < 60)=true by assumption);omega
       first
         | (show o.length+1≤maxLen;simp only [maxLen];omega)
         | (show (o.length+1) * 200≤_;omega)
         | (show Alive [] _;exact rfl)
         | (have h5:((rc s k).2 == 0)=false:=by assumption
            obtain ⟨g',rfl,hE'⟩:=rcF_go hlt h5 hg
            refine ⟨60 - (o.length+1),by omega,o++[(rc s k).1],k+(rc s k).2,g',?_,by omega,hr1,by rw [List.length_append];exact hlt,by rw [List.length_append];show 60≤g' + (o.length+1);omega,by rw [← hE'];exact hE,by rw [List.length_append];rfl⟩
            exact snapRI (f:=fun r z=>(([sArg s,.val false [.sl true 51 r],iArg z],[]):Snap)) (congrArg (fun r=>o++[r]) w7) (wrapA h0 hr0 hr1 hs))
         | (have h5:((rc s k).2 == 0)=true:=by assumption
            have h6:=eq_of_beq h5
            have hZ:rcA rc s=(o,k):=hE.symm.trans (rcF_stop (fun c=>c.2 h6))
            exact resRO hZ rfl rfl))
    | (have h6:decide ((o.length:Int) < 60)=false:=by assumption
       have h7:=of_decide_eq_false h6
       have hZ:rcA rc s=(o,k):=hE.symm.trans (rcF_stop (fun c=>h7 (by have:=c.1;omega)))
       exact resRO hZ rfl rfl)
    | skip
set_option maxHeartbeats 8000000 in
theorem xo15 (rc:ByteArray→Int→List D × Int) (hw:RcOk rc) (hrc:FOk Tryz.prog T 39 (spRO rc)):FOk Tryz.prog T 15 (spOS fun s=>(rcA rc s).2):=by
  refine fok (env:=envL [(39,(spRO rc))]) (N:=15) tabT (envL_cons hrc envL_nil) mixed Tryz.func15 rfl Tryz.call15 Tryz.ntmps15 ?_
  rintro args ⟨s,hs,rfl⟩ hwf'
  clear hwf'
  obtain ⟨h0,h1⟩:=rcA_in hw hs
  refine ⟨by simp,?_⟩
  rw [Tryz.results15]
  repeat' first
    | (refine And.intro ?_ ?_)
    | (intro h;simp only [reduceCtorEq] at h;done)
    | (intro h;rw [h])
    | (intro h)
  all_goals first
    | (show lowEdges _=true;kernel_rfl)|(show logOk _ _=true;kernel_rfl)|exact True.intro|exact Or.inr rfl|exact Or.inl rfl
    | exact rfl
    | exact ⟨_,hs,rfl⟩
    | with_reducible assumption
    | exact Int.le_refl _
    | skip
set_option maxHeartbeats 8000000 in
theorem xo16 (rc:ByteArray→Int→List D × Int) (hw:RcOk rc) (hrc:FOk Tryz.prog T 40 (spRO rc)):FOk Tryz.prog T 16 (spOS fun s=>(rcA rc s).2):=by
  refine fok (env:=envL [(40,(spRO rc))]) (N:=15) tabT (envL_cons hrc envL_nil) mixed Tryz.func16 rfl Tryz.call16 Tryz.ntmps16 ?_
  rintro args ⟨s,hs,rfl⟩ hwf'
  clear hwf'
  obtain ⟨h0,h1⟩:=rcA_in hw hs
  refine ⟨by simp,?_⟩
  rw [Tryz.results16]
  repeat' first
    | (refine And.intro ?_ ?_)
    | (intro h;simp only [reduceCtorEq] at h;done)
    | (intro h;rw [h])
    | (intro h)
  all_goals first
    | (show lowEdges _=true;kernel_rfl)|(show logOk _ _=true;kernel_rfl)|exact True.intro|exact Or.inr rfl|exact Or.inl rfl
    | exact rfl
    | exact ⟨_,hs,rfl⟩
    | with_reducible assumption
    | exact Int.le_refl _
    | skip
theorem xo17:FOk Tryz.prog T 17 spEqS:=by
  refine fok (env:=envL []) (N:=15) tabT envL_nil mixed Tryz.func17 rfl Tryz.call17 Tryz.ntmps17 ?_
  rintro args ⟨a,b,n,m,rfl⟩ hwf'
  clear hwf'
  refine ⟨by simp,?_⟩
  rw [Tryz.results17]
  repeat' first
    | (refine And.intro ?_ ?_)
    | (intro h;simp only [reduceCtorEq] at h;done)
    | (intro h;rw [h])
    | (intro h)
  all_goals first
    | (show lowEdges _=true;kernel_rfl)|(show logOk _ _=true;kernel_rfl)|exact True.intro|exact Or.inr rfl|exact Or.inl rfl
    | exact rfl
    | (refine resB ?_;simp_all;done)
    | skip
theorem xo3 (n:ByteArray→Int) (ha:FOk Tryz.prog T 15 (spOS n)) (hb:FOk Tryz.prog T 16 (spOS n)):FOk Tryz.prog T 3 spLaw1:=by
  refine fok (env:=envL [(15,(spOS n)),(16,(spOS n)),(17,spEqS)]) (N:=16) tabT (envL_cons ha (envL_cons hb (envL_cons xo17 envL_nil))) mixed Tryz.func3 rfl Tryz.call3 Tryz.ntmps3 ?_
  rintro args ⟨s,rfl⟩ hwf'
  clear hwf'
  refine ⟨by simp,?_⟩
  rw [Tryz.results3]
  repeat' first
    | (refine And.intro ?_ ?_)
    | (intro h;simp only [reduceCtorEq] at h;done)
    | (intro h;rw [h])
    | (intro h)
  all_goals first
    | (show lowEdges _=true;kernel_rfl)|(show logOk _ _=true;kernel_rfl)|exact True.intro|exact Or.inr rfl|exact Or.inl rfl
    | exact rfl
    | (have:=of_decide_eq_false (show decide ((s.size:Int) > 1048576)=false by assumption);exact ⟨s,by omega,rfl⟩)
    | exact ⟨_,_,_,_,rfl⟩
    | (simp_all;done)
    | skip
end Go.Proofs.YtppgalpldaibhaaGreatDoor.Ab
