/- A part. -/
import Derived.Test.YtdjfhmghebommaaGreatDoorDMh
import Derived.Test.YtdjfhmghebommaaGreatDoorDMk
import Derived.Test.YtdjfhmghebommaaGreatDoorDEe
import Derived.Test.YtdjfhmghebommaaGreatDoorDWk
namespace Go.Proofs.YtdjfhmghebommaaGreatDoor.Ab
open Go.RowKit
set_option linter.all false
section
variable {P:Program} {T:Tab} {N:Nat}
structure OkC (P:Program) (T:Tab) (N:Nat) (c:Code) (Q:Exit→St→Prop) (σ:St):Prop where
 run:∀ (W:Base) (E:Env),Rel T W N E→E.σ=σ→c.wp P (QC T W N Q) E.a E.w
theorem OkC.forgetTo {c:Code} {Q:Exit→St→Prop} {σ:St} (ts bs:List Nat) (s:Snap) (hal:aT bs σ) (hs:snap ts bs σ=s) (h:OkC P T N c Q (ke ts bs s)):OkC P T N c Q σ :=
 ⟨fun W E hr he=>h.run W (E.keep ts bs) hr.keep (by subst he;subst hs;exact iI hal)⟩
theorem OkC.seqO {a b:Code} {Q:Exit→St→Prop} {σ:St} (h:OkC P T N a (dn (OkC P T N b Q) Q) σ):OkC P T N (.seq a b) Q σ:=by
 refine ⟨fun W E hr he=>wp_seq (wp_mono (h.run W E hr he) fun e a' w' hq=>?_)⟩
 obtain ⟨E',h',rfl,rfl,hq⟩:=hq
 cases e with
 | normal=>exact (show OkC P T N b Q E'.σ from hq).run W E' h' rfl
 | exit id=>exact ⟨E',h',rfl,rfl,hq⟩
 | goto l=>exact ⟨E',h',rfl,rfl,hq⟩
 | ret=>exact ⟨E',h',rfl,rfl,hq⟩
 | panic ch=>exact ⟨E',h',rfl,rfl,hq⟩
 | outgrown=>exact ⟨E',h',rfl,rfl,hq⟩
theorem OkC.block {id:Nat} {c:Code} {Q:Exit→St→Prop} {σ:St} (h:OkC P T N c (bh id Q) σ):OkC P T N (.block id c) Q σ:=by
 refine ⟨fun W E hr he=>wp_block (wp_mono (h.run W E hr he) fun e a' w' hq=>?_)⟩
 obtain ⟨E',h',rfl,rfl,hq⟩:=hq
 cases e with
 | exit id' =>
   simp only [bh] at hq
   simp only [Exit.inBlock]
   split
   · rename_i hi;rw [if_pos hi] at hq;exact ⟨E',h',rfl,rfl,hq⟩
   · rename_i hi;rw [if_neg hi] at hq;exact ⟨E',h',rfl,rfl,hq⟩
 | normal=>exact ⟨E',h',rfl,rfl,hq⟩
 | goto l=>exact ⟨E',h',rfl,rfl,hq⟩
 | ret=>exact ⟨E',h',rfl,rfl,hq⟩
 | panic ch=>exact ⟨E',h',rfl,rfl,hq⟩
 | outgrown=>exact ⟨E',h',rfl,rfl,hq⟩
section
variable {env:FuncId→Option FSpec} (hT:TabOk P T) (hE:eu P T env) (hm:P.follows .mixedOrders=true)
include hT hE hm
theorem OkC.of_awp {c:Code} {Q:Exit→St→Prop} {σ:St} (h:awp T env N c Q σ):OkC P T N c Q σ :=
 ⟨fun W E hr he=>by subst he;exact cJ hT hE hm c hr h⟩
theorem OkC.seq {a b:Code} {Q:Exit→St→Prop} {σ:St} (h:awp T env N a (dn (OkC P T N b Q) Q) σ):OkC P T N (.seq a b) Q σ:=OkC.seqO (OkC.of_awp hT hE hm h)
end
theorem OkC.loop {c:Code} {Q:Exit→St→Prop} {σ:St} (ts bs:List Nat) (J:Nat→Snap→Prop) (h0:aT bs σ∧∃ n,J n (snap ts bs σ))
 (hr:∀ n s,J n s→OkC P T N c (dn (fun σ' => aT bs σ' ∧ ∃ m,m < n∧J m (snap ts bs σ')) Q) (ke ts bs s)):OkC P T N (.loop c) Q σ:=by
 refine ⟨fun W E h he=>?_⟩
 let I:Nat→St→Prop:=fun n σ=>∃ s,σ=ke ts bs s∧J n s
 have h00:∃ n,I n (keep ts bs E.σ):=by
  obtain ⟨ha,n,hn⟩:=h0
  subst he
  exact ⟨n,_,iI ha,hn⟩
 have hround:∀ n σ,I n σ→OkC P T N c (dn (fun σ' => ∃ m,m < n∧I m (keep ts bs σ')) Q) σ:=by
  rintro n σ ⟨s,rfl,hI⟩
  refine ⟨fun W E h he=>?_⟩
  refine wp_mono ((hr n s hI).run W E h he) (QC.mono fun e σ' hq=>?_)
  cases e with
  | normal =>
    obtain ⟨ha,m,hlt,hm⟩:=hq
    exact ⟨m,hlt,_,iI ha,hm⟩
  | _=>exact hq
 obtain ⟨n0,h0⟩:=h00
 let G:Nat→Act→World→Prop:=fun n a w=>∃ E',Rel T W N E' ∧ E'.a=a∧E'.w=w∧I n E'.σ
 have least:∀ a w,(∃ n,G n a w)→∃ n,G n a w∧∀ m,m < n→¬ G m a w:=by
  intro a w ⟨n,hn⟩
  induction n using Nat.strongRecOn with
  | _ n ih =>
    by_cases hx:∃ m,m < n∧G m a w
    · obtain ⟨m,hm',hg⟩:=hx;exact ih m hm' hg
    · exact ⟨n,hn,fun m hm' hg=>hx ⟨m,hm',hg⟩⟩
 let M:Act→World→Nat:=fun a w=>open Classical in if h:∃ n,G n a w then (least a w h).choose else 0
 have hM:∀ a w n,G n a w→G (M a w) a w∧M a w≤n:=by
  intro a w n hg
  have hex:∃ n,G n a w:=⟨n,hg⟩
  have hs:=(least a w hex).choose_spec
  have e:M a w=(least a w hex).choose:=by simp only [M];rw [dif_pos hex]
  rw [e]
  exact ⟨hs.1,Nat.le_of_not_lt fun hlt=>hs.2 n hlt hg⟩
 refine wp_loop (fun a w=>∃ n,G n a w) M ⟨n0,E.keep ts bs,h.keep,rfl,rfl,h0⟩ fun a w ⟨n,hg⟩=>?_
 obtain ⟨⟨E',h',rfl,rfl,hI⟩,_⟩:=hM a w n hg
 refine wp_mono ((hround _ E'.σ hI).run W E' h' rfl) fun e a' w' hq=>?_
 obtain ⟨E2,h2,rfl,rfl,hq⟩:=hq
 cases e with
 | normal =>
   obtain ⟨m,hlt,hI2⟩:=hq
   have hg2:G m E2.a E2.w:=⟨E2.keep ts bs,h2.keep,rfl,rfl,hI2⟩
   refine ⟨⟨_,hg2⟩,?_⟩
   have:=(hM _ _ _ hg2).2
   omega
 | exit id=>exact ⟨E2,h2,rfl,rfl,hq⟩
 | goto l=>exact ⟨E2,h2,rfl,rfl,hq⟩
 | ret=>exact ⟨E2,h2,rfl,rfl,hq⟩
 | panic ch=>exact ⟨E2,h2,rfl,rfl,hq⟩
 | outgrown=>exact ⟨E2,h2,rfl,rfl,hq⟩
theorem fokO (hT:TabOk P T) {f:FuncId} {fn:Func} {c:Code} {s:FSpec} (hf:P.funcs[f]? = some fn) (hb:fn.body=some c)
 (hcall:∀ args w,(callFunc f args).run P w=.ok (.enter f args) w) (hN:fn.ntmps=N) (hbx:s.bx=false)
 (h:∀ args,s.pre args→(∀ a ∈ args,WfSV T a)→args.length≤N∧OkC P T N c (fun e σ=>(e=.normal∨e=.ret)∧(kR T fn.results.toList (s.res args)).wp (fun _=>True) σ) (init args)):FOk P T f s :=
 fokG hT hf hb hcall hN (fun args h1 h2=>⟨(h args h1 h2).1,(h args h1 h2).2.run⟩) hbx
end
set_option maxRecDepth 100000
set_option maxHeartbeats 4000000
theorem rows_l (x:List (List D)):(D.l x).rows=x:=rfl
theorem hd17n (mt:Int→ByteArray) (hmt:FOk Tryz.prog T 40 (spMT mt)) (n:Nat):FOk Tryz.prog T 17 (iw mt 29 n):=by
 have hE:eu Tryz.prog T (envL [(33,(spHd mt 3)),(40,(spMT mt)),(34,(spHd mt 55))]):=(ac (hd33 mt hmt) (ac hmt (ac (hd34 mt hmt) af)))
 refine fokO (N:=184) tabT Tryz.func17 rfl Tryz.call17 Tryz.ntmps17 rfl ?_
 rintro args ⟨rows,k,h1,h2,wf,hwn,rfl⟩ hwf
 clear hwf
 have hs:=wf.short
 refine ⟨by simp,?_⟩
 rw [Tryz.results17]
 refine OkC.seq tabT hE mixed ?_
 repeat' first
  | refine And.intro ?_ ?_
  | (intro h;simp only [reduceCtorEq] at h;done)
 all_goals first
  | (show aa _=true;kernel_rfl)|(show am _ _=true;kernel_rfl)|exact True.intro|exact Or.inr rfl|exact Or.inl rfl
  | skip
 refine OkC.seqO (OkC.seq tabT hE mixed ?_)
 repeat' first
  | refine And.intro ?_ ?_
  | (intro h;simp only [reduceCtorEq] at h;done)
 all_goals first
  | (show aa _=true;kernel_rfl)|(show am _ _=true;kernel_rfl)|exact True.intro|exact Or.inr rfl|exact Or.inl rfl
  | skip
 refine OkC.block ?_
 refine OkC.loop [0,1,5] [] (fun m st=>∃ j:Nat,st=([argS 29 (ah mt k rows),.val false [.i .i64 ((k+ad (rows.take j)))],.val false [.i .i64 (j:Int)]],[])∧j≤rows.length∧m=rows.length - j) ?_ ?_
 · refine ⟨rfl,rows.length,0,?_,jbP _,rfl⟩
   exact congrArg (fun z:Int=>(([argS 29 (ah mt k rows),.val false [.i .i64 (z)],.val false [.i .i64 0]],[]):Snap)) (show k=k+((0:Nat):Int) by omega)
 rintro m st ⟨j,rfl,hj,rfl⟩
 have hml:=aK (mt:=mt) rows k
 by_cases hge:rows.length≤j
 · have ht:rows.take j=rows:=jcr (by omega)
   refine OkC.seq tabT hE mixed ?_
   repeat' first
    | refine And.intro ?_ ?_
    | (intro h;simp only [reduceCtorEq] at h;done)
    | (intro h;exact absurd (jbO h) (by rw [hml];omega))
    | intro h
   all_goals first
    | (show aa _=true;kernel_rfl)|(show am _ _=true;kernel_rfl)|exact True.intro|exact Or.inr rfl|exact Or.inl rfl
    | skip
   refine OkC.of_awp tabT hE mixed ?_
   repeat' first
    | refine And.intro ?_ ?_
    | (intro h;simp only [reduceCtorEq] at h;done)
    | intro h
   all_goals first
    | (show aa _=true;kernel_rfl)|(show am _ _=true;kernel_rfl)|exact True.intro|exact Or.inr rfl|exact Or.inl rfl
    | exact rfl
    | exact congrArg (fun z:Int=>[CV.i .i64 z]) (by rw [ht,aN])
    | skip
 have hlt:j < rows.length:=by omega
 obtain ⟨x0,r0,hr,hr0⟩:=WfRow.int_ (wf.at_ (show T 29=some _ from rfl) hlt)
 obtain ⟨x1,r1,rfl,hr1⟩:=WfRow.int_ hr0
 obtain ⟨x2,r2,rfl,hr2⟩:=WfRow.int_ hr1
 obtain ⟨x3,r3,rfl,wf3,hr3⟩:=WfRow.slW hr2
 obtain ⟨x4,r4,rfl,hr4⟩:=WfRow.int_ hr3
 obtain ⟨x5,r5,rfl,hr5⟩:=WfRow.int_ hr4
 obtain ⟨x6,r6,rfl,hr6⟩:=WfRow.int_ hr5
 obtain ⟨x7,r7,rfl,hr7⟩:=WfRow.int_ hr6
 obtain ⟨x8,r8,rfl,hr8⟩:=WfRow.int_ hr7
 obtain ⟨x9,r9,rfl,hr9⟩:=WfRow.str_ hr8
 obtain ⟨x10,r10,rfl,hr10⟩:=WfRow.str_ hr9
 obtain ⟨x11,r11,rfl,hr11⟩:=WfRow.int_ hr10
 obtain ⟨x12,r12,rfl,hr12⟩:=WfRow.str_ hr11
 obtain ⟨x13,r13,rfl,hr13⟩:=WfRow.str_ hr12
 obtain ⟨x14,r14,rfl,hr14⟩:=WfRow.int_ hr13
 obtain ⟨x15,r15,rfl,hr15⟩:=WfRow.int_ hr14
 obtain ⟨x16,r16,rfl,wf16,hr16⟩:=WfRow.slW hr15
 obtain rfl:=hr16.end_
 clear hr0 hr1 hr2 hr3 hr4 hr5 hr6 hr7 hr8 hr9 hr10 hr11 hr12 hr13 hr14 hr15 hr16
 have hrow:=cv (mt:=mt) (k:=k) hlt
 rw [hr] at hrow
 have hc:=bd hlt
 have hc2:=bP rows (j+1)
 rw [hr] at hc
 have hc3:cRow [.i x0,.i x1,.i x2,.l x3,.i x4,.i x5,.i x6,.i x7,.i x8,.s x9,.s x10,.i x11,.s x12,.s x13,.i x14,.i x15,.l x16]=1+(1+(1+(ad x3+(1+(1+(1+(1+(1+(1+(1+(1+(1+(1+(1+(1+(ad x16+0)))))))))))))))):=rfl
 rw [hc3] at hc
 obtain ⟨q,hq⟩:∃ q,(k+ad (rows.take j))=q:=⟨_,rfl⟩
 have hnext:k+(ad (rows.take (j+1)):Int)=q+1+1+1+ad x3+1+1+1+1+1+1+1+1+1+1+1+1+ad x16:=by omega
 have hq1:1≤q:=by omega
 have hq2:q+1+1+1+ad x3+1+1+1+1+1+1+1+1+1+1+1+1+ad x16≤4611686018427387904:=by omega
 rw [hq] at hrow
 have hM:(ah mt k rows).getD (Int.toNat (j:Int)) []=[.i (q),.i (q+1),.i (q+1+1),.l (ah mt (q+1+1+1) x3),.i (q+1+1+1+ad x3),.i (q+1+1+1+ad x3+1),.i (q+1+1+1+ad x3+1+1),.i (q+1+1+1+ad x3+1+1+1),.i (q+1+1+1+ad x3+1+1+1+1),.s (mt (q+1+1+1+ad x3+1+1+1+1+1)),.s (mt (q+1+1+1+ad x3+1+1+1+1+1+1)),.i (q+1+1+1+ad x3+1+1+1+1+1+1+1),.s (mt (q+1+1+1+ad x3+1+1+1+1+1+1+1+1)),.s (mt (q+1+1+1+ad x3+1+1+1+1+1+1+1+1+1)),.i (q+1+1+1+ad x3+1+1+1+1+1+1+1+1+1+1),.i (q+1+1+1+ad x3+1+1+1+1+1+1+1+1+1+1+1),.l (ah mt (q+1+1+1+ad x3+1+1+1+1+1+1+1+1+1+1+1+1) x16)]:=hrow
 simp only [hq]
 clear hrow hc hc2 hc3 hr hq
 have HW0:=Lib.hid (show IntKind.i64.wrap (q+1)=q+1 from IntWalk.i64_in _ (by omega))
 have HW1:=Lib.hid (show IntKind.i64.wrap (q+1+1)=q+1+1 from IntWalk.i64_in _ (by omega))
 have HW2:=Lib.hid (show IntKind.i64.wrap (q+1+1+1)=q+1+1+1 from IntWalk.i64_in _ (by omega))
 have HW4:=Lib.hid (show IntKind.i64.wrap (q+1+1+1+ad x3+1)=q+1+1+1+ad x3+1 from IntWalk.i64_in _ (by omega))
 have HW5:=Lib.hid (show IntKind.i64.wrap (q+1+1+1+ad x3+1+1)=q+1+1+1+ad x3+1+1 from IntWalk.i64_in _ (by omega))
 have HW6:=Lib.hid (show IntKind.i64.wrap (q+1+1+1+ad x3+1+1+1)=q+1+1+1+ad x3+1+1+1 from IntWalk.i64_in _ (by omega))
 have HW7:=Lib.hid (show IntKind.i64.wrap (q+1+1+1+ad x3+1+1+1+1)=q+1+1+1+ad x3+1+1+1+1 from IntWalk.i64_in _ (by omega))
 have HW8:=Lib.hid (show IntKind.i64.wrap (q+1+1+1+ad x3+1+1+1+1+1)=q+1+1+1+ad x3+1+1+1+1+1 from IntWalk.i64_in _ (by omega))
 have HW9:=Lib.hid (show IntKind.i64.wrap (q+1+1+1+ad x3+1+1+1+1+1+1)=q+1+1+1+ad x3+1+1+1+1+1+1 from IntWalk.i64_in _ (by omega))
 have HW10:=Lib.hid (show IntKind.i64.wrap (q+1+1+1+ad x3+1+1+1+1+1+1+1)=q+1+1+1+ad x3+1+1+1+1+1+1+1 from IntWalk.i64_in _ (by omega))
 have HW11:=Lib.hid (show IntKind.i64.wrap (q+1+1+1+ad x3+1+1+1+1+1+1+1+1)=q+1+1+1+ad x3+1+1+1+1+1+1+1+1 from IntWalk.i64_in _ (by omega))
 have HW12:=Lib.hid (show IntKind.i64.wrap (q+1+1+1+ad x3+1+1+1+1+1+1+1+1+1)=q+1+1+1+ad x3+1+1+1+1+1+1+1+1+1 from IntWalk.i64_in _ (by omega))
 have HW13:=Lib.hid (show IntKind.i64.wrap (q+1+1+1+ad x3+1+1+1+1+1+1+1+1+1+1)=q+1+1+1+ad x3+1+1+1+1+1+1+1+1+1+1 from IntWalk.i64_in _ (by omega))
 have HW14:=Lib.hid (show IntKind.i64.wrap (q+1+1+1+ad x3+1+1+1+1+1+1+1+1+1+1+1)=q+1+1+1+ad x3+1+1+1+1+1+1+1+1+1+1+1 from IntWalk.i64_in _ (by omega))
 have HW15:=Lib.hid (show IntKind.i64.wrap (q+1+1+1+ad x3+1+1+1+1+1+1+1+1+1+1+1+1)=q+1+1+1+ad x3+1+1+1+1+1+1+1+1+1+1+1+1 from IntWalk.i64_in _ (by omega))
 have hg3:([.i (q),.i (q+1),.i (q+1+1),.l (ah mt (q+1+1+1) x3),.i (q+1+1+1+ad x3),.i (q+1+1+1+ad x3+1),.i (q+1+1+1+ad x3+1+1),.i (q+1+1+1+ad x3+1+1+1),.i (q+1+1+1+ad x3+1+1+1+1),.s (mt (q+1+1+1+ad x3+1+1+1+1+1)),.s (mt (q+1+1+1+ad x3+1+1+1+1+1+1)),.i (q+1+1+1+ad x3+1+1+1+1+1+1+1),.s (mt (q+1+1+1+ad x3+1+1+1+1+1+1+1+1)),.s (mt (q+1+1+1+ad x3+1+1+1+1+1+1+1+1+1)),.i (q+1+1+1+ad x3+1+1+1+1+1+1+1+1+1+1),.i (q+1+1+1+ad x3+1+1+1+1+1+1+1+1+1+1+1),.l (ah mt (q+1+1+1+ad x3+1+1+1+1+1+1+1+1+1+1+1+1) x16)]:List D).getD 3 default=.l (ah mt (q+1+1+1) x3):=rfl
 have hx3:(q+1+1+1)+((ad ((((ah mt k rows).getD (Int.toNat (j:Int)) []).getD 3 default).rows):Nat):Int)=q+1+1+1+ad x3:=by rw [hM,hg3,rows_l,aN x3 (q+1+1+1)]
 have hy3:(q+1+1+1)+((ad ((([.i (q),.i (q+1),.i (q+1+1),.l (ah mt (q+1+1+1) x3),.i (q+1+1+1+ad x3),.i (q+1+1+1+ad x3+1),.i (q+1+1+1+ad x3+1+1),.i (q+1+1+1+ad x3+1+1+1),.i (q+1+1+1+ad x3+1+1+1+1),.s (mt (q+1+1+1+ad x3+1+1+1+1+1)),.s (mt (q+1+1+1+ad x3+1+1+1+1+1+1)),.i (q+1+1+1+ad x3+1+1+1+1+1+1+1),.s (mt (q+1+1+1+ad x3+1+1+1+1+1+1+1+1)),.s (mt (q+1+1+1+ad x3+1+1+1+1+1+1+1+1+1)),.i (q+1+1+1+ad x3+1+1+1+1+1+1+1+1+1+1),.i (q+1+1+1+ad x3+1+1+1+1+1+1+1+1+1+1+1),.l (ah mt (q+1+1+1+ad x3+1+1+1+1+1+1+1+1+1+1+1+1) x16)]:List D).getD 3 default).rows):Nat):Int)=q+1+1+1+ad x3:=by rw [hg3,rows_l,aN x3 (q+1+1+1)]
 have HX3:=Lib.hid hx3
 have HY3:=Lib.hid hy3
 clear hg3 hx3 hy3
 have hg16:([.i (q),.i (q+1),.i (q+1+1),.l (ah mt (q+1+1+1) x3),.i (q+1+1+1+ad x3),.i (q+1+1+1+ad x3+1),.i (q+1+1+1+ad x3+1+1),.i (q+1+1+1+ad x3+1+1+1),.i (q+1+1+1+ad x3+1+1+1+1),.s (mt (q+1+1+1+ad x3+1+1+1+1+1)),.s (mt (q+1+1+1+ad x3+1+1+1+1+1+1)),.i (q+1+1+1+ad x3+1+1+1+1+1+1+1),.s (mt (q+1+1+1+ad x3+1+1+1+1+1+1+1+1)),.s (mt (q+1+1+1+ad x3+1+1+1+1+1+1+1+1+1)),.i (q+1+1+1+ad x3+1+1+1+1+1+1+1+1+1+1),.i (q+1+1+1+ad x3+1+1+1+1+1+1+1+1+1+1+1),.l (ah mt (q+1+1+1+ad x3+1+1+1+1+1+1+1+1+1+1+1+1) x16)]:List D).getD 16 default=.l (ah mt (q+1+1+1+ad x3+1+1+1+1+1+1+1+1+1+1+1+1) x16):=rfl
 have hx16:(q+1+1+1+ad x3+1+1+1+1+1+1+1+1+1+1+1+1)+((ad ((((ah mt k rows).getD (Int.toNat (j:Int)) []).getD 16 default).rows):Nat):Int)=q+1+1+1+ad x3+1+1+1+1+1+1+1+1+1+1+1+1+ad x16:=by rw [hM,hg16,rows_l,aN x16 (q+1+1+1+ad x3+1+1+1+1+1+1+1+1+1+1+1+1)]
 have hy16:(q+1+1+1+ad x3+1+1+1+1+1+1+1+1+1+1+1+1)+((ad ((([.i (q),.i (q+1),.i (q+1+1),.l (ah mt (q+1+1+1) x3),.i (q+1+1+1+ad x3),.i (q+1+1+1+ad x3+1),.i (q+1+1+1+ad x3+1+1),.i (q+1+1+1+ad x3+1+1+1),.i (q+1+1+1+ad x3+1+1+1+1),.s (mt (q+1+1+1+ad x3+1+1+1+1+1)),.s (mt (q+1+1+1+ad x3+1+1+1+1+1+1)),.i (q+1+1+1+ad x3+1+1+1+1+1+1+1),.s (mt (q+1+1+1+ad x3+1+1+1+1+1+1+1+1)),.s (mt (q+1+1+1+ad x3+1+1+1+1+1+1+1+1+1)),.i (q+1+1+1+ad x3+1+1+1+1+1+1+1+1+1+1),.i (q+1+1+1+ad x3+1+1+1+1+1+1+1+1+1+1+1),.l (ah mt (q+1+1+1+ad x3+1+1+1+1+1+1+1+1+1+1+1+1) x16)]:List D).getD 16 default).rows):Nat):Int)=q+1+1+1+ad x3+1+1+1+1+1+1+1+1+1+1+1+1+ad x16:=by rw [hg16,rows_l,aN x16 (q+1+1+1+ad x3+1+1+1+1+1+1+1+1+1+1+1+1)]
 have HX16:=Lib.hid hx16
 have HY16:=Lib.hid hy16
 clear hg16 hx16 hy16
 refine OkC.seq tabT hE mixed ?_
 repeat' first
  | refine And.intro ?_ ?_
  | (rw [hM])
  | (intro h;simp only [reduceCtorEq] at h;done)
  | (intro h;exact hdS h)
  | (intro h;exact hdZ rfl h)
  | (intro h;exact absurd (jbO h) (by omega))
  | (intro h;exact absurd (jbZ h) (by rw [hml];omega))
  | intro h
 all_goals first
  | (show aa _=true;kernel_rfl)|(show am _ _=true;kernel_rfl)|exact True.intro|exact Or.inr rfl|exact Or.inl rfl
  | exact rfl
  | with_reducible exact jb2 _
  | (show (j:Int) < (((ah mt k rows)).length:Int);rw [hml];omega)
  | (show (Int.toNat (j:Int)) < _;rw [hml,jca];exact hlt)
  | exact ⟨_,by omega,by omega,rfl⟩
  | skip
 refine OkC.seqO (OkC.block ?_)
 refine OkC.seq tabT hE mixed ?_
 repeat' first
  | refine And.intro ?_ ?_
  | (rw [hM])
  | (intro h;simp only [reduceCtorEq] at h;done)
  | (intro h;exact hdS h)
  | (intro h;exact hdZ rfl h)
  | (intro h;exact absurd (jbO h) (by omega))
  | (intro h;exact absurd (jbZ h) (by rw [hml];omega))
  | intro h
 all_goals first
  | (show aa _=true;kernel_rfl)|(show am _ _=true;kernel_rfl)|exact True.intro|exact Or.inr rfl|exact Or.inl rfl
  | exact rfl
  | with_reducible exact jb2 _
  | (show (j:Int) < (((ah mt k rows)).length:Int);rw [hml];omega)
  | (show (Int.toNat (j:Int)) < _;rw [hml,jca];exact hlt)
  | exact ⟨_,by omega,by omega,rfl⟩
  | skip
 refine OkC.seq tabT hE mixed ?_
 repeat' first
  | refine And.intro ?_ ?_
  | (rw [hM])
  | (intro h;simp only [reduceCtorEq] at h;done)
  | (intro h;exact hdS h)
  | (intro h;exact hdZ rfl h)
  | (intro h;exact absurd (jbO h) (by omega))
  | (intro h;exact absurd (jbZ h) (by rw [hml];omega))
  | intro h
 all_goals first
  | (show aa _=true;kernel_rfl)|(show am _ _=true;kernel_rfl)|exact True.intro|exact Or.inr rfl|exact Or.inl rfl
  | exact rfl
  | with_reducible exact jb2 _
  | (show (j:Int) < (((ah mt k rows)).length:Int);rw [hml];omega)
  | (show (Int.toNat (j:Int)) < _;rw [hml,jca];exact hlt)
  | exact ⟨_,by omega,by omega,rfl⟩
  | skip
 refine OkC.forgetTo [0,1,5] [] ([argS 29 (ah mt k rows),.val false [.i .i64 (q+1)],.val false [.i .i64 (j:Int)]],[]) rfl (congrArg (fun z:Int=>(([argS 29 (ah mt k rows),.val false [.i .i64 (z)],.val false [.i .i64 (j:Int)]],[]):Snap)) HW0.out) ?_
 refine OkC.seq tabT hE mixed ?_
 repeat' first
  | refine And.intro ?_ ?_
  | (rw [hM])
  | (intro h;simp only [reduceCtorEq] at h;done)
  | (intro h;exact hdS h)
  | (intro h;exact hdZ rfl h)
  | (intro h;exact absurd (jbO h) (by omega))
  | (intro h;exact absurd (jbZ h) (by rw [hml];omega))
  | intro h
 all_goals first
  | (show aa _=true;kernel_rfl)|(show am _ _=true;kernel_rfl)|exact True.intro|exact Or.inr rfl|exact Or.inl rfl
  | exact rfl
  | with_reducible exact jb2 _
  | (show (j:Int) < (((ah mt k rows)).length:Int);rw [hml];omega)
  | (show (Int.toNat (j:Int)) < _;rw [hml,jca];exact hlt)
  | exact ⟨_,by omega,by omega,rfl⟩
  | skip
 refine OkC.seq tabT hE mixed ?_
 repeat' first
  | refine And.intro ?_ ?_
  | (rw [hM])
  | (intro h;simp only [reduceCtorEq] at h;done)
  | (intro h;exact hdS h)
  | (intro h;exact hdZ rfl h)
  | (intro h;exact absurd (jbO h) (by omega))
  | (intro h;exact absurd (jbZ h) (by rw [hml];omega))
  | intro h
 all_goals first
  | (show aa _=true;kernel_rfl)|(show am _ _=true;kernel_rfl)|exact True.intro|exact Or.inr rfl|exact Or.inl rfl
  | exact rfl
  | with_reducible exact jb2 _
  | (show (j:Int) < (((ah mt k rows)).length:Int);rw [hml];omega)
  | (show (Int.toNat (j:Int)) < _;rw [hml,jca];exact hlt)
  | exact ⟨_,by omega,by omega,rfl⟩
  | skip
 refine OkC.forgetTo [0,1,5] [] ([argS 29 (ah mt k rows),.val false [.i .i64 (q+1+1)],.val false [.i .i64 (j:Int)]],[]) rfl (congrArg (fun z:Int=>(([argS 29 (ah mt k rows),.val false [.i .i64 (z)],.val false [.i .i64 (j:Int)]],[]):Snap)) HW1.out) ?_
 refine OkC.seq tabT hE mixed ?_
 repeat' first
  | refine And.intro ?_ ?_
  | (rw [hM])
  | (intro h;simp only [reduceCtorEq] at h;done)
  | (intro h;exact hdS h)
  | (intro h;exact hdZ rfl h)
  | (intro h;exact absurd (jbO h) (by omega))
  | (intro h;exact absurd (jbZ h) (by rw [hml];omega))
  | intro h
 all_goals first
  | (show aa _=true;kernel_rfl)|(show am _ _=true;kernel_rfl)|exact True.intro|exact Or.inr rfl|exact Or.inl rfl
  | exact rfl
  | with_reducible exact jb2 _
  | (show (j:Int) < (((ah mt k rows)).length:Int);rw [hml];omega)
  | (show (Int.toNat (j:Int)) < _;rw [hml,jca];exact hlt)
  | exact ⟨_,by omega,by omega,rfl⟩
  | skip
 refine OkC.seq tabT hE mixed ?_
 repeat' first
  | refine And.intro ?_ ?_
  | (rw [hM])
  | (intro h;simp only [reduceCtorEq] at h;done)
  | (intro h;exact hdS h)
  | (intro h;exact hdZ rfl h)
  | (intro h;exact absurd (jbO h) (by omega))
  | (intro h;exact absurd (jbZ h) (by rw [hml];omega))
  | intro h
 all_goals first
  | (show aa _=true;kernel_rfl)|(show am _ _=true;kernel_rfl)|exact True.intro|exact Or.inr rfl|exact Or.inl rfl
  | exact rfl
  | with_reducible exact jb2 _
  | (show (j:Int) < (((ah mt k rows)).length:Int);rw [hml];omega)
  | (show (Int.toNat (j:Int)) < _;rw [hml,jca];exact hlt)
  | exact ⟨_,by omega,by omega,rfl⟩
  | skip
 refine OkC.forgetTo [0,1,5] [] ([argS 29 (ah mt k rows),.val false [.i .i64 (q+1+1+1)],.val false [.i .i64 (j:Int)]],[]) rfl (congrArg (fun z:Int=>(([argS 29 (ah mt k rows),.val false [.i .i64 (z)],.val false [.i .i64 (j:Int)]],[]):Snap)) HW2.out) ?_
 refine OkC.seq tabT hE mixed ?_
 repeat' first
  | refine And.intro ?_ ?_
  | (rw [hM])
  | (intro h;simp only [reduceCtorEq] at h;done)
  | (intro h;exact hdS h)
  | (intro h;exact hdZ rfl h)
  | (intro h;exact absurd (jbO h) (by omega))
  | (intro h;exact absurd (jbZ h) (by rw [hml];omega))
  | intro h
 all_goals first
  | (show aa _=true;kernel_rfl)|(show am _ _=true;kernel_rfl)|exact True.intro|exact Or.inr rfl|exact Or.inl rfl
  | exact rfl
  | with_reducible exact jb2 _
  | (show (j:Int) < (((ah mt k rows)).length:Int);rw [hml];omega)
  | (show (Int.toNat (j:Int)) < _;rw [hml,jca];exact hlt)
  | exact ⟨_,by omega,by omega,rfl⟩
  | exact ⟨x3,q+1+1+1,by omega,by omega,wf3,rfl⟩
  | skip
 refine OkC.forgetTo [0,1,5] [] ([argS 29 (ah mt k rows),.val false [.i .i64 (q+1+1+1+ad x3)],.val false [.i .i64 (j:Int)]],[]) rfl ?_ ?_
 · first|exact rfl|exact congrArg (fun z:Int=>(([argS 29 (ah mt k rows),.val false [.i .i64 (z)],.val false [.i .i64 (j:Int)]],[]):Snap)) HX3.out|exact congrArg (fun z:Int=>(([argS 29 (ah mt k rows),.val false [.i .i64 (z)],.val false [.i .i64 (j:Int)]],[]):Snap)) HY3.out
 refine OkC.seq tabT hE mixed ?_
 repeat' first
  | refine And.intro ?_ ?_
  | (rw [hM])
  | (intro h;simp only [reduceCtorEq] at h;done)
  | (intro h;exact hdS h)
  | (intro h;exact hdZ rfl h)
  | (intro h;exact absurd (jbO h) (by omega))
  | (intro h;exact absurd (jbZ h) (by rw [hml];omega))
  | intro h
 all_goals first
  | (show aa _=true;kernel_rfl)|(show am _ _=true;kernel_rfl)|exact True.intro|exact Or.inr rfl|exact Or.inl rfl
  | exact rfl
  | with_reducible exact jb2 _
  | (show (j:Int) < (((ah mt k rows)).length:Int);rw [hml];omega)
  | (show (Int.toNat (j:Int)) < _;rw [hml,jca];exact hlt)
  | exact ⟨_,by omega,by omega,rfl⟩
  | skip
 refine OkC.seq tabT hE mixed ?_
 repeat' first
  | refine And.intro ?_ ?_
  | (rw [hM])
  | (intro h;simp only [reduceCtorEq] at h;done)
  | (intro h;exact hdS h)
  | (intro h;exact hdZ rfl h)
  | (intro h;exact absurd (jbO h) (by omega))
  | (intro h;exact absurd (jbZ h) (by rw [hml];omega))
  | intro h
 all_goals first
  | (show aa _=true;kernel_rfl)|(show am _ _=true;kernel_rfl)|exact True.intro|exact Or.inr rfl|exact Or.inl rfl
  | exact rfl
  | with_reducible exact jb2 _
  | (show (j:Int) < (((ah mt k rows)).length:Int);rw [hml];omega)
  | (show (Int.toNat (j:Int)) < _;rw [hml,jca];exact hlt)
  | exact ⟨_,by omega,by omega,rfl⟩
  | skip
 refine OkC.seq tabT hE mixed ?_
 repeat' first
  | refine And.intro ?_ ?_
  | (rw [hM])
  | (intro h;simp only [reduceCtorEq] at h;done)
  | (intro h;exact hdS h)
  | (intro h;exact hdZ rfl h)
  | (intro h;exact absurd (jbO h) (by omega))
  | (intro h;exact absurd (jbZ h) (by rw [hml];omega))
  | intro h
 all_goals first
  | (show aa _=true;kernel_rfl)|(show am _ _=true;kernel_rfl)|exact True.intro|exact Or.inr rfl|exact Or.inl rfl
  | exact rfl
  | with_reducible exact jb2 _
  | (show (j:Int) < (((ah mt k rows)).length:Int);rw [hml];omega)
  | (show (Int.toNat (j:Int)) < _;rw [hml,jca];exact hlt)
  | exact ⟨_,by omega,by omega,rfl⟩
  | skip
 refine OkC.forgetTo [0,1,5] [] ([argS 29 (ah mt k rows),.val false [.i .i64 (q+1+1+1+ad x3+1)],.val false [.i .i64 (j:Int)]],[]) rfl (congrArg (fun z:Int=>(([argS 29 (ah mt k rows),.val false [.i .i64 (z)],.val false [.i .i64 (j:Int)]],[]):Snap)) HW4.out) ?_
 refine OkC.seq tabT hE mixed ?_
 repeat' first
  | refine And.intro ?_ ?_
  | (rw [hM])
  | (intro h;simp only [reduceCtorEq] at h;done)
  | (intro h;exact hdS h)
  | (intro h;exact hdZ rfl h)
  | (intro h;exact absurd (jbO h) (by omega))
  | (intro h;exact absurd (jbZ h) (by rw [hml];omega))
  | intro h
 all_goals first
  | (show aa _=true;kernel_rfl)|(show am _ _=true;kernel_rfl)|exact True.intro|exact Or.inr rfl|exact Or.inl rfl
  | exact rfl
  | with_reducible exact jb2 _
  | (show (j:Int) < (((ah mt k rows)).length:Int);rw [hml];omega)
  | (show (Int.toNat (j:Int)) < _;rw [hml,jca];exact hlt)
  | exact ⟨_,by omega,by omega,rfl⟩
  | skip
 refine OkC.seq tabT hE mixed ?_
 repeat' first
  | refine And.intro ?_ ?_
  | (rw [hM])
  | (intro h;simp only [reduceCtorEq] at h;done)
  | (intro h;exact hdS h)
  | (intro h;exact hdZ rfl h)
  | (intro h;exact absurd (jbO h) (by omega))
  | (intro h;exact absurd (jbZ h) (by rw [hml];omega))
  | intro h
 all_goals first
  | (show aa _=true;kernel_rfl)|(show am _ _=true;kernel_rfl)|exact True.intro|exact Or.inr rfl|exact Or.inl rfl
  | exact rfl
  | with_reducible exact jb2 _
  | (show (j:Int) < (((ah mt k rows)).length:Int);rw [hml];omega)
  | (show (Int.toNat (j:Int)) < _;rw [hml,jca];exact hlt)
  | exact ⟨_,by omega,by omega,rfl⟩
  | skip
 refine OkC.forgetTo [0,1,5] [] ([argS 29 (ah mt k rows),.val false [.i .i64 (q+1+1+1+ad x3+1+1)],.val false [.i .i64 (j:Int)]],[]) rfl (congrArg (fun z:Int=>(([argS 29 (ah mt k rows),.val false [.i .i64 (z)],.val false [.i .i64 (j:Int)]],[]):Snap)) HW5.out) ?_
 refine OkC.seq tabT hE mixed ?_
 repeat' first
  | refine And.intro ?_ ?_
  | (rw [hM])
  | (intro h;simp only [reduceCtorEq] at h;done)
  | (intro h;exact hdS h)
  | (intro h;exact hdZ rfl h)
  | (intro h;exact absurd (jbO h) (by omega))
  | (intro h;exact absurd (jbZ h) (by rw [hml];omega))
  | intro h
 all_goals first
  | (show aa _=true;kernel_rfl)|(show am _ _=true;kernel_rfl)|exact True.intro|exact Or.inr rfl|exact Or.inl rfl
  | exact rfl
  | with_reducible exact jb2 _
  | (show (j:Int) < (((ah mt k rows)).length:Int);rw [hml];omega)
  | (show (Int.toNat (j:Int)) < _;rw [hml,jca];exact hlt)
  | exact ⟨_,by omega,by omega,rfl⟩
  | skip
 refine OkC.seq tabT hE mixed ?_
 repeat' first
  | refine And.intro ?_ ?_
  | (rw [hM])
  | (intro h;simp only [reduceCtorEq] at h;done)
  | (intro h;exact hdS h)
  | (intro h;exact hdZ rfl h)
  | (intro h;exact absurd (jbO h) (by omega))
  | (intro h;exact absurd (jbZ h) (by rw [hml];omega))
  | intro h
 all_goals first
  | (show aa _=true;kernel_rfl)|(show am _ _=true;kernel_rfl)|exact True.intro|exact Or.inr rfl|exact Or.inl rfl
  | exact rfl
  | with_reducible exact jb2 _
  | (show (j:Int) < (((ah mt k rows)).length:Int);rw [hml];omega)
  | (show (Int.toNat (j:Int)) < _;rw [hml,jca];exact hlt)
  | exact ⟨_,by omega,by omega,rfl⟩
  | skip
 refine OkC.forgetTo [0,1,5] [] ([argS 29 (ah mt k rows),.val false [.i .i64 (q+1+1+1+ad x3+1+1+1)],.val false [.i .i64 (j:Int)]],[]) rfl (congrArg (fun z:Int=>(([argS 29 (ah mt k rows),.val false [.i .i64 (z)],.val false [.i .i64 (j:Int)]],[]):Snap)) HW6.out) ?_
 refine OkC.seq tabT hE mixed ?_
 repeat' first
  | refine And.intro ?_ ?_
  | (rw [hM])
  | (intro h;simp only [reduceCtorEq] at h;done)
  | (intro h;exact hdS h)
  | (intro h;exact hdZ rfl h)
  | (intro h;exact absurd (jbO h) (by omega))
  | (intro h;exact absurd (jbZ h) (by rw [hml];omega))
  | intro h
 all_goals first
  | (show aa _=true;kernel_rfl)|(show am _ _=true;kernel_rfl)|exact True.intro|exact Or.inr rfl|exact Or.inl rfl
  | exact rfl
  | with_reducible exact jb2 _
  | (show (j:Int) < (((ah mt k rows)).length:Int);rw [hml];omega)
  | (show (Int.toNat (j:Int)) < _;rw [hml,jca];exact hlt)
  | exact ⟨_,by omega,by omega,rfl⟩
  | skip
 refine OkC.seq tabT hE mixed ?_
 repeat' first
  | refine And.intro ?_ ?_
  | (rw [hM])
  | (intro h;simp only [reduceCtorEq] at h;done)
  | (intro h;exact hdS h)
  | (intro h;exact hdZ rfl h)
  | (intro h;exact absurd (jbO h) (by omega))
  | (intro h;exact absurd (jbZ h) (by rw [hml];omega))
  | intro h
 all_goals first
  | (show aa _=true;kernel_rfl)|(show am _ _=true;kernel_rfl)|exact True.intro|exact Or.inr rfl|exact Or.inl rfl
  | exact rfl
  | with_reducible exact jb2 _
  | (show (j:Int) < (((ah mt k rows)).length:Int);rw [hml];omega)
  | (show (Int.toNat (j:Int)) < _;rw [hml,jca];exact hlt)
  | exact ⟨_,by omega,by omega,rfl⟩
  | skip
 refine OkC.forgetTo [0,1,5] [] ([argS 29 (ah mt k rows),.val false [.i .i64 (q+1+1+1+ad x3+1+1+1+1)],.val false [.i .i64 (j:Int)]],[]) rfl (congrArg (fun z:Int=>(([argS 29 (ah mt k rows),.val false [.i .i64 (z)],.val false [.i .i64 (j:Int)]],[]):Snap)) HW7.out) ?_
 refine OkC.seq tabT hE mixed ?_
 repeat' first
  | refine And.intro ?_ ?_
  | (rw [hM])
  | (intro h;simp only [reduceCtorEq] at h;done)
  | (intro h;exact hdS h)
  | (intro h;exact hdZ rfl h)
  | (intro h;exact absurd (jbO h) (by omega))
  | (intro h;exact absurd (jbZ h) (by rw [hml];omega))
  | intro h
 all_goals first
  | (show aa _=true;kernel_rfl)|(show am _ _=true;kernel_rfl)|exact True.intro|exact Or.inr rfl|exact Or.inl rfl
  | exact rfl
  | with_reducible exact jb2 _
  | (show (j:Int) < (((ah mt k rows)).length:Int);rw [hml];omega)
  | (show (Int.toNat (j:Int)) < _;rw [hml,jca];exact hlt)
  | exact ⟨_,by omega,by omega,rfl⟩
  | skip
 refine OkC.seq tabT hE mixed ?_
 repeat' first
  | refine And.intro ?_ ?_
  | (rw [hM])
  | (intro h;simp only [reduceCtorEq] at h;done)
  | (intro h;exact hdS h)
  | (intro h;exact hdZ rfl h)
  | (intro h;exact absurd (jbO h) (by omega))
  | (intro h;exact absurd (jbZ h) (by rw [hml];omega))
  | intro h
 all_goals first
  | (show aa _=true;kernel_rfl)|(show am _ _=true;kernel_rfl)|exact True.intro|exact Or.inr rfl|exact Or.inl rfl
  | exact rfl
  | with_reducible exact jb2 _
  | (show (j:Int) < (((ah mt k rows)).length:Int);rw [hml];omega)
  | (show (Int.toNat (j:Int)) < _;rw [hml,jca];exact hlt)
  | exact ⟨_,by omega,by omega,rfl⟩
  | skip
 refine OkC.forgetTo [0,1,5] [] ([argS 29 (ah mt k rows),.val false [.i .i64 (q+1+1+1+ad x3+1+1+1+1+1)],.val false [.i .i64 (j:Int)]],[]) rfl (congrArg (fun z:Int=>(([argS 29 (ah mt k rows),.val false [.i .i64 (z)],.val false [.i .i64 (j:Int)]],[]):Snap)) HW8.out) ?_
 refine OkC.seq tabT hE mixed ?_
 repeat' first
  | refine And.intro ?_ ?_
  | (rw [hM])
  | (intro h;simp only [reduceCtorEq] at h;done)
  | (intro h;exact hdS h)
  | (intro h;exact hdZ rfl h)
  | (intro h;exact absurd (jbO h) (by omega))
  | (intro h;exact absurd (jbZ h) (by rw [hml];omega))
  | intro h
 all_goals first
  | (show aa _=true;kernel_rfl)|(show am _ _=true;kernel_rfl)|exact True.intro|exact Or.inr rfl|exact Or.inl rfl
  | exact rfl
  | with_reducible exact jb2 _
  | (show (j:Int) < (((ah mt k rows)).length:Int);rw [hml];omega)
  | (show (Int.toNat (j:Int)) < _;rw [hml,jca];exact hlt)
  | exact ⟨_,by omega,by omega,rfl⟩
  | skip
 refine OkC.seq tabT hE mixed ?_
 repeat' first
  | refine And.intro ?_ ?_
  | (rw [hM])
  | (intro h;simp only [reduceCtorEq] at h;done)
  | (intro h;exact hdS h)
  | (intro h;exact hdZ rfl h)
  | (intro h;exact absurd (jbO h) (by omega))
  | (intro h;exact absurd (jbZ h) (by rw [hml];omega))
  | intro h
 all_goals first
  | (show aa _=true;kernel_rfl)|(show am _ _=true;kernel_rfl)|exact True.intro|exact Or.inr rfl|exact Or.inl rfl
  | exact rfl
  | with_reducible exact jb2 _
  | (show (j:Int) < (((ah mt k rows)).length:Int);rw [hml];omega)
  | (show (Int.toNat (j:Int)) < _;rw [hml,jca];exact hlt)
  | exact ⟨_,by omega,by omega,rfl⟩
  | skip
 refine OkC.forgetTo [0,1,5] [] ([argS 29 (ah mt k rows),.val false [.i .i64 (q+1+1+1+ad x3+1+1+1+1+1+1)],.val false [.i .i64 (j:Int)]],[]) rfl (congrArg (fun z:Int=>(([argS 29 (ah mt k rows),.val false [.i .i64 (z)],.val false [.i .i64 (j:Int)]],[]):Snap)) HW9.out) ?_
 refine OkC.seq tabT hE mixed ?_
 repeat' first
  | refine And.intro ?_ ?_
  | (rw [hM])
  | (intro h;simp only [reduceCtorEq] at h;done)
  | (intro h;exact hdS h)
  | (intro h;exact hdZ rfl h)
  | (intro h;exact absurd (jbO h) (by omega))
  | (intro h;exact absurd (jbZ h) (by rw [hml];omega))
  | intro h
 all_goals first
  | (show aa _=true;kernel_rfl)|(show am _ _=true;kernel_rfl)|exact True.intro|exact Or.inr rfl|exact Or.inl rfl
  | exact rfl
  | with_reducible exact jb2 _
  | (show (j:Int) < (((ah mt k rows)).length:Int);rw [hml];omega)
  | (show (Int.toNat (j:Int)) < _;rw [hml,jca];exact hlt)
  | exact ⟨_,by omega,by omega,rfl⟩
  | skip
 refine OkC.seq tabT hE mixed ?_
 repeat' first
  | refine And.intro ?_ ?_
  | (rw [hM])
  | (intro h;simp only [reduceCtorEq] at h;done)
  | (intro h;exact hdS h)
  | (intro h;exact hdZ rfl h)
  | (intro h;exact absurd (jbO h) (by omega))
  | (intro h;exact absurd (jbZ h) (by rw [hml];omega))
  | intro h
 all_goals first
  | (show aa _=true;kernel_rfl)|(show am _ _=true;kernel_rfl)|exact True.intro|exact Or.inr rfl|exact Or.inl rfl
  | exact rfl
  | with_reducible exact jb2 _
  | (show (j:Int) < (((ah mt k rows)).length:Int);rw [hml];omega)
  | (show (Int.toNat (j:Int)) < _;rw [hml,jca];exact hlt)
  | exact ⟨_,by omega,by omega,rfl⟩
  | skip
 refine OkC.forgetTo [0,1,5] [] ([argS 29 (ah mt k rows),.val false [.i .i64 (q+1+1+1+ad x3+1+1+1+1+1+1+1)],.val false [.i .i64 (j:Int)]],[]) rfl (congrArg (fun z:Int=>(([argS 29 (ah mt k rows),.val false [.i .i64 (z)],.val false [.i .i64 (j:Int)]],[]):Snap)) HW10.out) ?_
 refine OkC.seq tabT hE mixed ?_
 repeat' first
  | refine And.intro ?_ ?_
  | (rw [hM])
  | (intro h;simp only [reduceCtorEq] at h;done)
  | (intro h;exact hdS h)
  | (intro h;exact hdZ rfl h)
  | (intro h;exact absurd (jbO h) (by omega))
  | (intro h;exact absurd (jbZ h) (by rw [hml];omega))
  | intro h
 all_goals first
  | (show aa _=true;kernel_rfl)|(show am _ _=true;kernel_rfl)|exact True.intro|exact Or.inr rfl|exact Or.inl rfl
  | exact rfl
  | with_reducible exact jb2 _
  | (show (j:Int) < (((ah mt k rows)).length:Int);rw [hml];omega)
  | (show (Int.toNat (j:Int)) < _;rw [hml,jca];exact hlt)
  | exact ⟨_,by omega,by omega,rfl⟩
  | skip
 refine OkC.seq tabT hE mixed ?_
 repeat' first
  | refine And.intro ?_ ?_
  | (rw [hM])
  | (intro h;simp only [reduceCtorEq] at h;done)
  | (intro h;exact hdS h)
  | (intro h;exact hdZ rfl h)
  | (intro h;exact absurd (jbO h) (by omega))
  | (intro h;exact absurd (jbZ h) (by rw [hml];omega))
  | intro h
 all_goals first
  | (show aa _=true;kernel_rfl)|(show am _ _=true;kernel_rfl)|exact True.intro|exact Or.inr rfl|exact Or.inl rfl
  | exact rfl
  | with_reducible exact jb2 _
  | (show (j:Int) < (((ah mt k rows)).length:Int);rw [hml];omega)
  | (show (Int.toNat (j:Int)) < _;rw [hml,jca];exact hlt)
  | exact ⟨_,by omega,by omega,rfl⟩
  | skip
 refine OkC.forgetTo [0,1,5] [] ([argS 29 (ah mt k rows),.val false [.i .i64 (q+1+1+1+ad x3+1+1+1+1+1+1+1+1)],.val false [.i .i64 (j:Int)]],[]) rfl (congrArg (fun z:Int=>(([argS 29 (ah mt k rows),.val false [.i .i64 (z)],.val false [.i .i64 (j:Int)]],[]):Snap)) HW11.out) ?_
 refine OkC.seq tabT hE mixed ?_
 repeat' first
  | refine And.intro ?_ ?_
  | (rw [hM])
  | (intro h;simp only [reduceCtorEq] at h;done)
  | (intro h;exact hdS h)
  | (intro h;exact hdZ rfl h)
  | (intro h;exact absurd (jbO h) (by omega))
  | (intro h;exact absurd (jbZ h) (by rw [hml];omega))
  | intro h
 all_goals first
  | (show aa _=true;kernel_rfl)|(show am _ _=true;kernel_rfl)|exact True.intro|exact Or.inr rfl|exact Or.inl rfl
  | exact rfl
  | with_reducible exact jb2 _
  | (show (j:Int) < (((ah mt k rows)).length:Int);rw [hml];omega)
  | (show (Int.toNat (j:Int)) < _;rw [hml,jca];exact hlt)
  | exact ⟨_,by omega,by omega,rfl⟩
  | skip
 refine OkC.seq tabT hE mixed ?_
 repeat' first
  | refine And.intro ?_ ?_
  | (rw [hM])
  | (intro h;simp only [reduceCtorEq] at h;done)
  | (intro h;exact hdS h)
  | (intro h;exact hdZ rfl h)
  | (intro h;exact absurd (jbO h) (by omega))
  | (intro h;exact absurd (jbZ h) (by rw [hml];omega))
  | intro h
 all_goals first
  | (show aa _=true;kernel_rfl)|(show am _ _=true;kernel_rfl)|exact True.intro|exact Or.inr rfl|exact Or.inl rfl
  | exact rfl
  | with_reducible exact jb2 _
  | (show (j:Int) < (((ah mt k rows)).length:Int);rw [hml];omega)
  | (show (Int.toNat (j:Int)) < _;rw [hml,jca];exact hlt)
  | exact ⟨_,by omega,by omega,rfl⟩
  | skip
 refine OkC.forgetTo [0,1,5] [] ([argS 29 (ah mt k rows),.val false [.i .i64 (q+1+1+1+ad x3+1+1+1+1+1+1+1+1+1)],.val false [.i .i64 (j:Int)]],[]) rfl (congrArg (fun z:Int=>(([argS 29 (ah mt k rows),.val false [.i .i64 (z)],.val false [.i .i64 (j:Int)]],[]):Snap)) HW12.out) ?_
 refine OkC.seq tabT hE mixed ?_
 repeat' first
  | refine And.intro ?_ ?_
  | (rw [hM])
  | (intro h;simp only [reduceCtorEq] at h;done)
  | (intro h;exact hdS h)
  | (intro h;exact hdZ rfl h)
  | (intro h;exact absurd (jbO h) (by omega))
  | (intro h;exact absurd (jbZ h) (by rw [hml];omega))
  | intro h
 all_goals first
  | (show aa _=true;kernel_rfl)|(show am _ _=true;kernel_rfl)|exact True.intro|exact Or.inr rfl|exact Or.inl rfl
  | exact rfl
  | with_reducible exact jb2 _
  | (show (j:Int) < (((ah mt k rows)).length:Int);rw [hml];omega)
  | (show (Int.toNat (j:Int)) < _;rw [hml,jca];exact hlt)
  | exact ⟨_,by omega,by omega,rfl⟩
  | skip
 refine OkC.seq tabT hE mixed ?_
 repeat' first
  | refine And.intro ?_ ?_
  | (rw [hM])
  | (intro h;simp only [reduceCtorEq] at h;done)
  | (intro h;exact hdS h)
  | (intro h;exact hdZ rfl h)
  | (intro h;exact absurd (jbO h) (by omega))
  | (intro h;exact absurd (jbZ h) (by rw [hml];omega))
  | intro h
 all_goals first
  | (show aa _=true;kernel_rfl)|(show am _ _=true;kernel_rfl)|exact True.intro|exact Or.inr rfl|exact Or.inl rfl
  | exact rfl
  | with_reducible exact jb2 _
  | (show (j:Int) < (((ah mt k rows)).length:Int);rw [hml];omega)
  | (show (Int.toNat (j:Int)) < _;rw [hml,jca];exact hlt)
  | exact ⟨_,by omega,by omega,rfl⟩
  | skip
 refine OkC.forgetTo [0,1,5] [] ([argS 29 (ah mt k rows),.val false [.i .i64 (q+1+1+1+ad x3+1+1+1+1+1+1+1+1+1+1)],.val false [.i .i64 (j:Int)]],[]) rfl (congrArg (fun z:Int=>(([argS 29 (ah mt k rows),.val false [.i .i64 (z)],.val false [.i .i64 (j:Int)]],[]):Snap)) HW13.out) ?_
 refine OkC.seq tabT hE mixed ?_
 repeat' first
  | refine And.intro ?_ ?_
  | (rw [hM])
  | (intro h;simp only [reduceCtorEq] at h;done)
  | (intro h;exact hdS h)
  | (intro h;exact hdZ rfl h)
  | (intro h;exact absurd (jbO h) (by omega))
  | (intro h;exact absurd (jbZ h) (by rw [hml];omega))
  | intro h
 all_goals first
  | (show aa _=true;kernel_rfl)|(show am _ _=true;kernel_rfl)|exact True.intro|exact Or.inr rfl|exact Or.inl rfl
  | exact rfl
  | with_reducible exact jb2 _
  | (show (j:Int) < (((ah mt k rows)).length:Int);rw [hml];omega)
  | (show (Int.toNat (j:Int)) < _;rw [hml,jca];exact hlt)
  | exact ⟨_,by omega,by omega,rfl⟩
  | skip
 refine OkC.seq tabT hE mixed ?_
 repeat' first
  | refine And.intro ?_ ?_
  | (rw [hM])
  | (intro h;simp only [reduceCtorEq] at h;done)
  | (intro h;exact hdS h)
  | (intro h;exact hdZ rfl h)
  | (intro h;exact absurd (jbO h) (by omega))
  | (intro h;exact absurd (jbZ h) (by rw [hml];omega))
  | intro h
 all_goals first
  | (show aa _=true;kernel_rfl)|(show am _ _=true;kernel_rfl)|exact True.intro|exact Or.inr rfl|exact Or.inl rfl
  | exact rfl
  | with_reducible exact jb2 _
  | (show (j:Int) < (((ah mt k rows)).length:Int);rw [hml];omega)
  | (show (Int.toNat (j:Int)) < _;rw [hml,jca];exact hlt)
  | exact ⟨_,by omega,by omega,rfl⟩
  | skip
 refine OkC.forgetTo [0,1,5] [] ([argS 29 (ah mt k rows),.val false [.i .i64 (q+1+1+1+ad x3+1+1+1+1+1+1+1+1+1+1+1)],.val false [.i .i64 (j:Int)]],[]) rfl (congrArg (fun z:Int=>(([argS 29 (ah mt k rows),.val false [.i .i64 (z)],.val false [.i .i64 (j:Int)]],[]):Snap)) HW14.out) ?_
 refine OkC.seq tabT hE mixed ?_
 repeat' first
  | refine And.intro ?_ ?_
  | (rw [hM])
  | (intro h;simp only [reduceCtorEq] at h;done)
  | (intro h;exact hdS h)
  | (intro h;exact hdZ rfl h)
  | (intro h;exact absurd (jbO h) (by omega))
  | (intro h;exact absurd (jbZ h) (by rw [hml];omega))
  | intro h
 all_goals first
  | (show aa _=true;kernel_rfl)|(show am _ _=true;kernel_rfl)|exact True.intro|exact Or.inr rfl|exact Or.inl rfl
  | exact rfl
  | with_reducible exact jb2 _
  | (show (j:Int) < (((ah mt k rows)).length:Int);rw [hml];omega)
  | (show (Int.toNat (j:Int)) < _;rw [hml,jca];exact hlt)
  | exact ⟨_,by omega,by omega,rfl⟩
  | skip
 refine OkC.seq tabT hE mixed ?_
 repeat' first
  | refine And.intro ?_ ?_
  | (rw [hM])
  | (intro h;simp only [reduceCtorEq] at h;done)
  | (intro h;exact hdS h)
  | (intro h;exact hdZ rfl h)
  | (intro h;exact absurd (jbO h) (by omega))
  | (intro h;exact absurd (jbZ h) (by rw [hml];omega))
  | intro h
 all_goals first
  | (show aa _=true;kernel_rfl)|(show am _ _=true;kernel_rfl)|exact True.intro|exact Or.inr rfl|exact Or.inl rfl
  | exact rfl
  | with_reducible exact jb2 _
  | (show (j:Int) < (((ah mt k rows)).length:Int);rw [hml];omega)
  | (show (Int.toNat (j:Int)) < _;rw [hml,jca];exact hlt)
  | exact ⟨_,by omega,by omega,rfl⟩
  | skip
 refine OkC.forgetTo [0,1,5] [] ([argS 29 (ah mt k rows),.val false [.i .i64 (q+1+1+1+ad x3+1+1+1+1+1+1+1+1+1+1+1+1)],.val false [.i .i64 (j:Int)]],[]) rfl (congrArg (fun z:Int=>(([argS 29 (ah mt k rows),.val false [.i .i64 (z)],.val false [.i .i64 (j:Int)]],[]):Snap)) HW15.out) ?_
 refine OkC.seq tabT hE mixed ?_
 repeat' first
  | refine And.intro ?_ ?_
  | (rw [hM])
  | (intro h;simp only [reduceCtorEq] at h;done)
  | (intro h;exact hdS h)
  | (intro h;exact hdZ rfl h)
  | (intro h;exact absurd (jbO h) (by omega))
  | (intro h;exact absurd (jbZ h) (by rw [hml];omega))
  | intro h
 all_goals first
  | (show aa _=true;kernel_rfl)|(show am _ _=true;kernel_rfl)|exact True.intro|exact Or.inr rfl|exact Or.inl rfl
  | exact rfl
  | with_reducible exact jb2 _
  | (show (j:Int) < (((ah mt k rows)).length:Int);rw [hml];omega)
  | (show (Int.toNat (j:Int)) < _;rw [hml,jca];exact hlt)
  | exact ⟨_,by omega,by omega,rfl⟩
  | exact ⟨x16,q+1+1+1+ad x3+1+1+1+1+1+1+1+1+1+1+1+1,by omega,by omega,wf16,rfl⟩
  | skip
 refine OkC.forgetTo [0,1,5] [] ([argS 29 (ah mt k rows),.val false [.i .i64 (q+1+1+1+ad x3+1+1+1+1+1+1+1+1+1+1+1+1+ad x16)],.val false [.i .i64 (j:Int)]],[]) rfl ?_ ?_
 · first|exact rfl|exact congrArg (fun z:Int=>(([argS 29 (ah mt k rows),.val false [.i .i64 (z)],.val false [.i .i64 (j:Int)]],[]):Snap)) HX16.out|exact congrArg (fun z:Int=>(([argS 29 (ah mt k rows),.val false [.i .i64 (z)],.val false [.i .i64 (j:Int)]],[]):Snap)) HY16.out
 refine OkC.of_awp tabT hE mixed ?_
 repeat' first
  | refine And.intro ?_ ?_
  | (rw [hM])
  | (intro h;simp only [reduceCtorEq] at h;done)
  | (intro h;exact absurd (jbO h) (by omega))
  | intro h
 all_goals first
  | (show aa _=true;kernel_rfl)|(show am _ _=true;kernel_rfl)|exact True.intro|exact Or.inr rfl|exact Or.inl rfl
  | exact rfl
  | skip
 refine OkC.of_awp tabT hE mixed ?_
 repeat' first
  | refine And.intro ?_ ?_
  | (intro h;simp only [reduceCtorEq] at h;done)
  | intro h
 all_goals first
  | (show aa _=true;kernel_rfl)|(show am _ _=true;kernel_rfl)|exact True.intro|exact Or.inr rfl|exact Or.inl rfl
  | exact rfl
  | (refine ⟨rows.length - (j+1),by omega,j+1,?_,by omega,rfl⟩
     exact fT (f:=fun y z=>(([argS 29 (ah mt k rows),.val false [.i .i64 (y)],.val false [.i .i64 z]],[]):Snap)) (by first|exact hnext.symm|omega) (nW hlt hs))
  | skip
theorem hd17 (mt:Int→ByteArray) (hmt:FOk Tryz.prog T 40 (spMT mt)):FOk Tryz.prog T 17 (spHd mt 29):=FOk.held (hd17n mt hmt)
end Go.Proofs.YtdjfhmghebommaaGreatDoor.Ab
namespace Go.Proofs.YtdjfhmghebommaaGreatDoor
open Go.RowKit Ab
set_option linter.all false
set_option maxRecDepth 100000
set_option maxHeartbeats 8000000
theorem lC {T:Tab} {w:World} {X:Nat→Prop} {bk:Nat→Nat→Prop} {v:Value} {e:TypeId} {rows:List (List D)} {o:Bool} {b:Int} (h:ResR T w X bk v (.tup [(false,[.sl o e rows]),(false,[.i .i64 b])])):∃ x,v=.tuple #[x,.int .i64 b]∧ResC T w X bk (tix 0 0) x (.sl o e rows):=by
 obtain ⟨arr,rfl,hl,hc⟩:=h
 match arr,hl with
 | [x,y],_ =>
   obtain ⟨c0,g1,g2,g3⟩:=(hc 0 _ x rfl rfl).2 rfl
   obtain rfl:CV.sl o e rows=c0:=by simpa using g1
   obtain ⟨c,h1,h2,h3⟩:=(hc 1 _ y rfl rfl).2 rfl
   obtain rfl:CV.i .i64 b=c:=by simpa using h1
   obtain rfl:y=.int .i64 b:=h3.1
   exact ⟨x,rfl,g3⟩
theorem RdR.bel {T:Tab} {w w' : World} {ct:CT} {u:Value} {d:D} (h:RdR T w (fun _=>False) ct u d) (hb:Below w.heap.size w w'):RdR T w' (fun _=>False) ct u d:=h.move ⟨hb.size,fun b hb' _=>hb.block b hb'⟩ fun _ _ hx=>hx
theorem DeepV.bel {T:Tab} {w w' : World} {F:Nat→Prop} {ct:CT} {u:Value} {d:D} (h:DeepV T w F ct u d) (hb:Below w.heap.size w w'):DeepV T w' F ct u d:=h.move fun b hF=>hb.block b (h.lt b hF)
theorem MkEnd.below {T:Tab} {w w' : World} {F:Nat→Prop} {e:TypeId} {v:Value} {rows:List (List D)} (h:MkEnd T w w' F e v rows) {B:Nat} (hF:∀ b,F b→B≤b) (hB:B≤w.heap.size):Below B w w' :=
 ⟨h.os,h.tape,h.output,h.size,fun b hb=>h.block b (jcM hb hB) fun hi=>Nat.not_le_of_lt hb (hF b hi)⟩
theorem lawRO (mt:Int→ByteArray) (hmt:FOk Tryz.prog T 40 (spMT mt)) {rc:ByteArray→Int→List D × Int} (hct:∀ s:ByteArray,s.size≤1048576→1+(ad (rcA rc s).1:Int)≤4611686018427387904)
 (hS:FOk Tryz.prog T 13 (spRO rc)) (hI:FOk Tryz.prog Td 14 (xI rc)) (s:ByteArray) (hs:s.size≤1048576) (W:World) (hL:GlR T W (fun _=>False)) :
 Calls Tryz.prog 5 #[.string s] W fun e W' => e=.returned (.bool true)∧Below W.heap.size W W' := by
 have hsm:s.size≤maxLen:=jbV hs (by decide)
 have HL:=Lib.hid hL
 have hcH:=Lib.hid (hct s hs)
 clear hL hct
 obtain ⟨R,hR⟩:∃ R,(rcA rc s).1=R:=⟨_,rfl⟩
 obtain ⟨Q,hQ⟩:∃ Q,(rcA rc s).2=Q:=⟨_,rfl⟩
 go_enter Tryz.func5,Tryz.ntmps5
 go_wp2_with fail
 refine (hS.ok rfl W (fun _=>False) [sArg s] [.string s] (fun b h=>h.elim) (ArgsR.cons ⟨_,rfl,rfl,hsm⟩ ArgsR.nil) HL.out ⟨s,hs,rfl⟩).mono ?_
 rintro e w1 ⟨v,bk,rfl,hb1,hr1, -, -⟩
 obtain ⟨u1,rfl,r1⟩:=lC hr1
 have R1:RdR T w1 (fun _=>False) (.l 29) u1 (.l (rcA rc s).1):=(show RdR T w1 (fun b=>False∨∃ j,bk j b) (.l 29) u1 (.l (rcA rc s).1) from r1).move ⟨jb4 _,fun _ _ _=>rfl⟩ fun _ _ h=>h.elim
 rw [hR] at R1
 rw [hQ]
 have HR1:=Lib.hid R1
 have HB1:=Lib.hid hb1
 clear hr1 r1 hb1 R1
 go_wp2_with fail
 have hg1:=HL.out.bel HB1.out
 refine (hI.ok rfl _ (fun _=>False) [sArg s] [.string s] (fun b h=>h.elim) (ArgsR.cons ⟨_,rfl,rfl,hsm⟩ ArgsR.nil) (hg1.on true) ⟨s,hs,rfl⟩).mono ?_
 rintro e w2 ⟨v,bk2,rfl,hb2,hr2,hlt2,hinj2⟩
 obtain ⟨u2,rfl,r2⟩:=lC hr2
 obtain ⟨F,hF⟩:∃ F:Nat→Prop,bk2 (tix 0 0)=F:=⟨_,rfl⟩
 have D2:DeepV T w2 F (.l 29) u2 (.l (rcA rc s).1):=by
  have:OwnF Td w2 (fun _=>False) (bk2 (tix 0 0)) 29 u2 (rcA rc s).1:=r2
  rw [hF] at this
  exact DeepV.off (b:=true) (OwnF.toDeep this rfl)
 have hfr:∀ b,F b→w1.heap.size≤b:=fun b h=>by
  rw [← hF] at h
  exact (hlt2 _ b h).1
 rw [hR] at D2
 rw [hQ]
 have HD2:=Lib.hid D2
 have HB2:=Lib.hid hb2
 have HF:=Lib.hid hfr
 clear hr2 r2 hb2 D2 hlt2 hinj2 hF hg1 hfr
 have hRD:RdR T w2 (fun _=>False) (.l 29) u2 (.l R):=HD2.out.shared fun _ _ hx=>hx
 have HW2:=HB1.out.trans (HB2.out.mono HB1.out.size)
 go_wp2_with fail
 refine (Ab.ok15.ok rfl _ (fun _=>False) [argS 29 R,argS 29 R] [_,_] (fun b h=>h.elim) (ArgsR.cons ⟨_,rfl,hRD⟩ (ArgsR.cons ⟨_,rfl,RdR.bel HR1.out HB2.out⟩ ArgsR.nil)) (HL.out.bel HW2) ⟨_,_,rfl⟩).mono ?_
 rintro e w3 ⟨v,bk3,rfl,hb3,hr3, -, -⟩
 obtain rfl:v=.bool true:=by rw [fv hr3];exact congrArg Value.bool (decide_eq_true rfl)
 have C3:=Lib.hid (HB2.out.trans (hb3.mono HB2.out.size))
 have HW3:=Lib.hid (HB1.out.trans (C3.out.mono HB1.out.size))
 have HD3:=Lib.hid (DeepV.bel HD2.out hb3)
 clear hb3 hr3 HW2 hRD
 have hFW:∀ b,F b→W.heap.size≤b:=fun b h=>jbV HB1.out.size (HF.out b h)
 have hcR:1+(ad R:Int)≤4611686018427387904:=by rw [← hR];exact hcH.out
 have hG3:GlR T w3 F:=HL.out.move ⟨HW3.out.size,fun b hb' _=>HW3.out.block b hb'⟩ fun b hb' hi=>Nat.not_le_of_lt hb' (hFW b hi)
 have HG3:=Lib.hid hG3
 have HC:=Lib.hid hcR
 clear hcR hG3
 go_wp2_with fail
 refine (mk_16 mt hmt (wD (.l R)+1) w3 F _ R 1 (by decide) HC.out (jcO _) HG3.out HD3.out).mono ?_
 rintro e w4 ⟨rfl,hm4⟩
 have C4:=Lib.hid (C3.out.trans (MkEnd.below hm4 HF.out C3.out.size))
 have HW4:=Lib.hid (HB1.out.trans (C4.out.mono HB1.out.size))
 have HG4:=Lib.hid (HG3.out.move (X' := fun _=>False) ⟨hm4.size,fun b h1 h2=>hm4.block b h1 h2⟩ fun _ _ hx=>hx.elim)
 have HM4:=Lib.hid hm4.deep
 clear hm4
 have hq:ad (ah mt 1 R)=ad R:=aN _ _
 have hRM:RdR T w4 (fun _=>False) (.l 29) u2 (.l (ah mt 1 R)):=HM4.out.shared fun _ _ hx=>hx
 go_wp2_with fail
 refine ((Ab.hd17 mt hmt).ok rfl _ (fun _=>False) [argS 29 (ah mt 1 R),.val false [.i .i64 1]] [_,_] (fun b h=>h.elim) (ArgsR.cons ⟨_,rfl,hRM⟩ (ArgsR.cons ⟨_,rfl,rfl,aU (by decide) (by decide)⟩ ArgsR.nil)) HG4.out ⟨R,1,by decide,HC.out,HD2.out.wf,rfl⟩).mono ?_
 rintro e w5 ⟨v,bk5,rfl,hb5,hr5, -, -⟩
 obtain rfl:v=.int .i64 (1+ad R):=by
  rw [iC hr5]
  exact congrArg (fun z:Nat=>Value.int .i64 (1+(z:Int))) hq
 have C5:=Lib.hid (C4.out.trans (hb5.mono C4.out.size))
 have HW5:=Lib.hid (HB1.out.trans (C5.out.mono HB1.out.size))
 have HM5:=Lib.hid (DeepV.bel HM4.out hb5)
 clear hb5 hr5 hRM
 have hc0:0≤1+(ad R:Int):=by omega
 have hc1:¬ (1+(ad R:Int) < 0):=by omega
 go_wp2_with fail
 refine (hI.ok rfl _ (fun _=>False) [sArg s] [.string s] (fun b h=>h.elim) (ArgsR.cons ⟨_,rfl,rfl,hsm⟩ ArgsR.nil) ((HL.out.bel HW5.out).on true) ⟨s,hs,rfl⟩).mono ?_
 rintro e w6 ⟨v,bk6,rfl,hb6,hr6, -, -⟩
 obtain ⟨u6,rfl,r6⟩:=lC hr6
 have R6:RdR T w6 (fun _=>False) (.l 29) u6 (.l (rcA rc s).1):=by
  have:OwnF Td w6 (fun _=>False) (bk6 (tix 0 0)) 29 u6 (rcA rc s).1:=r6
  exact (DeepV.off (b:=true) (OwnF.toDeep this rfl)).shared fun _ _ hx=>hx
 rw [hR] at R6
 rw [hQ]
 have HR6:=Lib.hid R6
 have C6:=Lib.hid (C5.out.trans (hb6.mono C5.out.size))
 have HM6:=Lib.hid (DeepV.bel HM5.out hb6)
 have HW6:=Lib.hid (HB1.out.trans (C6.out.mono HB1.out.size))
 clear hr6 r6 hb6 R6
 go_wp2_with fail
 refine (Ab.ok15.ok rfl _ (fun _=>False) [argS 29 R,argS 29 R] [_,_] (fun b h=>h.elim) (ArgsR.cons ⟨_,rfl,HR6.out⟩ (ArgsR.cons ⟨_,rfl,RdR.bel HR1.out C6.out⟩ ArgsR.nil)) (HL.out.bel HW6.out) ⟨_,_,rfl⟩).mono ?_
 rintro e w7 ⟨v,bk7,rfl,hb7,hr7, -, -⟩
 obtain rfl:v=.bool true:=by rw [fv hr7];exact congrArg Value.bool (decide_eq_true rfl)
 have C7:=Lib.hid (C6.out.trans (hb7.mono C6.out.size))
 have HW7:=Lib.hid (HB1.out.trans (C7.out.mono HB1.out.size))
 have HM7:=Lib.hid (DeepV.bel HM6.out hb7)
 clear hb7 hr7
 have hRM7:RdR T w7 (fun _=>False) (.l 29) u2 (.l (ah mt 1 R)):=HM7.out.shared fun _ _ hx=>hx
 go_wp2_with fail
 refine ((Ab.hd17 mt hmt).ok rfl _ (fun _=>False) [argS 29 (ah mt 1 R),.val false [.i .i64 1]] [_,_] (fun b h=>h.elim) (ArgsR.cons ⟨_,rfl,hRM7⟩ (ArgsR.cons ⟨_,rfl,rfl,aU (by decide) (by decide)⟩ ArgsR.nil)) (HL.out.bel HW7.out) ⟨R,1,by decide,HC.out,HD2.out.wf,rfl⟩).mono ?_
 rintro e w8 ⟨v,bk8,rfl,hb8,hr8, -, -⟩
 obtain rfl:v=.int .i64 (1+ad R):=by
  rw [iC hr8]
  exact congrArg (fun z:Nat=>Value.int .i64 (1+(z:Int))) hq
 go_wp2
 go_ret
 exact ⟨rfl,HW7.out.trans (hb8.mono HW7.out.size)⟩
end Go.Proofs.YtdjfhmghebommaaGreatDoor
