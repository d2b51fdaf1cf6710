/- What the laws of crashed and of written stores ask, over any reader of records. No -/
import Derived.BigQuiet
import Derived.Test.YtkpnfbdoaljkpaaGreatDoorCJg
namespace Go.Proofs.YtkpnfbdoaljkpaaGreatDoor.Ab
open Go.RowKit
set_option linter.all false
set_option maxRecDepth 100000
structure LawC (rc:ByteArray→Int→List D × Int):Prop where
 pos:∀ s:ByteArray,s.size≤1048576→0≤(rcA rc s).2∧(rcA rc s).2≤s.size
 app:∀ d e:ByteArray, ∃ l,(rcA rc (d++e)).1=(rcA rc d).1++l
 pre:∀ (s:ByteArray) (m:Nat), ∃ l,(rcA rc s).1=(rcA rc (s.extract 0 m)).1++l
 wf:∀ s:ByteArray,s.size≤1048576→∀ r ∈ (rcA rc s).1,WfRow T cO r
theorem qD {d:ByteArray} {y:Int} (h:stOk d y=true):0≤y∧y≤d.size:=by
 unfold stOk inR at h
 simpa using h
theorem vtCr {d:ByteArray} {y:Int} (h:stOk d y=false):[CV.b (!stOk d y)]=[CV.b true]:=by rw [h];rfl
theorem yb {d:ByteArray} {n:Int} (hd:d.size≤1048576) (hn:inK .i64 n):WfRow T [.s,.i .i64] [.s d,.i n]:=by
 refine ⟨rfl,fun j ct x hc hx=>?_⟩
 match j with
 | 0=>cases hc;cases hx;exact .str _ (ja0 hd (by decide))
 | 1=>cases hc;cases hx;exact .int _ _ hn
 | j+2=>simp at hc
end Go.Proofs.YtkpnfbdoaljkpaaGreatDoor.Ab
namespace Go.Proofs.YtkpnfbdoaljkpaaGreatDoor
open Go.ChangeShapes Go.WideShapes Go.ChangeAt Go.RowKit Go.Joins
def inB (x lo hi:Int):Bool:=decide (lo≤x) && decide (x≤hi)
theorem vt {x lo hi:Int} (h:¬ (lo≤x∧x≤hi)):inB x lo hi=false:=by simp only [inB,Bool.and_eq_false_iff,decide_eq_false_iff_not];omega
theorem jaa (x lo hi:Int) (w:World) :
 Calls Tryz.prog 49 #[.int .i64 x,.int .i64 lo,.int .i64 hi] w fun e w' => e=.returned (.bool (inB x lo hi))∧w=w' := by
 go_enter Tryz.func49,Tryz.ntmps49
 go_wp2
 all_goals go_ret
 all_goals refine ⟨?_,rfl⟩
 all_goals first|(rw [vt (by omega)];rfl)|simp [inB, *]
theorem pt (x lo hi:Int) (w:World) :
 Calls Tryz.prog 50 #[.int .i64 x,.int .i64 lo,.int .i64 hi] w fun e w' => e=.returned (.bool (inB x lo hi))∧w=w' := by
 go_enter Tryz.func50,Tryz.ntmps50
 go_wp2
 all_goals go_ret
 all_goals refine ⟨?_,rfl⟩
 all_goals first|(rw [vt (by omega)];rfl)|simp [inB, *]
theorem lT (s:ByteArray) (n:Int) (w:World) :
 Calls Tryz.prog 21 #[.agg #[.string s,.int .i64 n]] w fun e w' => e=.returned (.bool (inB n 0 s.size))∧Below w.heap.size w w' := by
 go_enter Tryz.func21,Tryz.ntmps21
 go_wp2_with fail
 refine (jaa _ _ _ _).mono ?_;rintro e w' ⟨rfl,rfl⟩
 go_wp2
 go_ret
 exact ⟨rfl,by go_grown⟩
theorem mw (s:ByteArray) (n:Int) (w:World) :
 Calls Tryz.prog 22 #[.agg #[.string s,.int .i64 n]] w fun e w' => e=.returned (.bool (inB n 0 s.size))∧Below w.heap.size w w' := by
 go_enter Tryz.func22,Tryz.ntmps22
 go_wp2_with fail
 refine (pt _ _ _ _).mono ?_;rintro e w' ⟨rfl,rfl⟩
 go_wp2
 go_ret
 exact ⟨rfl,by go_grown⟩
def crash (s:ByteArray) (n k:Int):ByteArray:=if inB n 0 s.size=true then s.extract 0 (n+max 0 (min k (s.size - n))).toNat else ByteArray.empty
theorem zS (a b:Int) (w:World):Calls Tryz.prog 47 #[.int .i64 a,.int .i64 b] w fun e w' => e=.returned (.int .i64 (max a b))∧w=w' := by
 go_enter Tryz.func47,Tryz.ntmps47
 go_wp2
 all_goals go_ret
 all_goals exact ⟨by congr 2;simp;omega,rfl⟩
theorem zP (a b:Int) (w:World):Calls Tryz.prog 48 #[.int .i64 a,.int .i64 b] w fun e w' => e=.returned (.int .i64 (min a b))∧w=w' := by
 go_enter Tryz.func48,Tryz.ntmps48
 go_wp2
 all_goals go_ret
 all_goals exact ⟨by congr 2;simp;omega,rfl⟩
theorem vh {P:Program} {f:FuncId} {args:Array Value} {w:World} {v:Value} (h:Calls P f args w fun e w' => e=.returned v∧w=w'):Calls P f args w fun e w' => e=.returned v∧w' = w :=
 h.mono fun _ _ h=>⟨h.1,h.2.symm⟩
theorem lU (s:ByteArray) (n k:Int) (w:World) (h:inB n 0 s.size=false) :
 Calls Tryz.prog 20 #[.agg #[.string s,.int .i64 n],.int .i64 k] w fun e w' => e=.returned (.string (crash s n k))∧Below w.heap.size w w' := by
 have hr:crash s n k=ByteArray.empty:=by simp [crash,h]
 have HR:=Lib.hid hr
 clear hr
 go_enter Tryz.func20,Tryz.ntmps20
 go_wp2_with fail
 refine (lT _ _ _).mono ?_;rintro e w1 ⟨rfl,hb1⟩
 go_wp2
 go_ret
 exact ⟨by rw [HR.out];rfl,ns (cE _ _) hb1⟩
theorem mz (s:ByteArray) (n k:Int) (w:World) (h:inB n 0 s.size=false) :
 Calls Tryz.prog 19 #[.agg #[.string s,.int .i64 n],.int .i64 k] w fun e w' => e=.returned (.string (crash s n k))∧Below w.heap.size w w' := by
 have hr:crash s n k=ByteArray.empty:=by simp [crash,h]
 have HR:=Lib.hid hr
 clear hr
 go_enter Tryz.func19,Tryz.ntmps19
 go_wp2_with fail
 refine (mw _ _ _).mono ?_;rintro e w1 ⟨rfl,hb1⟩
 go_wp2
 go_ret
 exact ⟨by rw [HR.out];rfl,ns (cE _ _) hb1⟩
theorem kP (s:ByteArray) (n k:Int) (w:World) (h:inB n 0 s.size=true) (hs:s.size≤1048576) :
 Calls Tryz.prog 20 #[.agg #[.string s,.int .i64 n],.int .i64 k] w fun e w' => e=.returned (.string (crash s n k))∧Below w.heap.size w w' := by
 have hn:0≤n∧n≤s.size:=by simpa [inB] using h
 obtain ⟨hn0,hn1⟩:=hn
 have hr:crash s n k=s.extract 0 (n+max 0 (min k (s.size - n))).toNat:=by simp [crash,h]
 have HR:=Lib.hid hr
 clear hr
 go_enter Tryz.func20,Tryz.ntmps20
 go_wp2_with fail
 refine (lT _ _ _).mono ?_;rintro e w1 ⟨rfl,hb1⟩
 obtain ⟨hc1,hf1,hz1⟩:=jaD hb1
 try simp at hz1
 have hl1:w.heap.size < w1.heap.size:=by omega
 go_wp2_with fail
 have a1:0≤n+max 0 (min k (s.size - n)):=by omega
 have a2:n+max 0 (min k (s.size - n))≤s.size:=by omega
 have a3:IntKind.i64.wrap ((s.size:Int) - n)=s.size - n:=IntWalk.i64_in _ (by omega)
 have a4:IntKind.i64.wrap (n+max 0 (min k (s.size - n)))=n+max 0 (min k (s.size - n)):=IntWalk.i64_in _ (by omega)
 go_quiet (first|(go_at_call 48;exact Calls.quiet_of_same (vh (zP _ _ _)))|(go_at_call 47;exact Calls.quiet_of_same (vh (zS _ _ _))))
 go_wp2
 go_ret
 exact ⟨by rw [HR.out];rfl,(ns (cE _ _) hb1).trans (Joins.below_draws _ _ _)⟩
theorem lp (s:ByteArray) (n k:Int) (w:World) (h:inB n 0 s.size=true) (hs:s.size≤1048576) :
 Calls Tryz.prog 19 #[.agg #[.string s,.int .i64 n],.int .i64 k] w fun e w' => e=.returned (.string (crash s n k))∧Below w.heap.size w w' := by
 have hn:0≤n∧n≤s.size:=by simpa [inB] using h
 obtain ⟨hn0,hn1⟩:=hn
 have hr:crash s n k=s.extract 0 (n+max 0 (min k (s.size - n))).toNat:=by simp [crash,h]
 have HR:=Lib.hid hr
 clear hr
 go_enter Tryz.func19,Tryz.ntmps19
 go_wp2_with fail
 refine (mw _ _ _).mono ?_;rintro e w1 ⟨rfl,hb1⟩
 obtain ⟨hc1,hf1,hz1⟩:=jaD hb1
 try simp at hz1
 have hl1:w.heap.size < w1.heap.size:=by omega
 have a1:0≤n+max 0 (min k (s.size - n)):=by omega
 have a2:n+max 0 (min k (s.size - n))≤s.size:=by omega
 have a3:IntKind.i64.wrap ((s.size:Int) - n)=s.size - n:=IntWalk.i64_in _ (by omega)
 have a4:IntKind.i64.wrap (n+max 0 (min k (s.size - n)))=n+max 0 (min k (s.size - n)):=IntWalk.i64_in _ (by omega)
 go_wp2
 all_goals go_ret
 all_goals exact ⟨by rw [HR.out];rfl,ns (cE _ _) hb1⟩
theorem qE (s:ByteArray) (n k:Int) (w:World) (hs:s.size≤1048576):Calls Tryz.prog 20 #[.agg #[.string s,.int .i64 n],.int .i64 k] w fun e w' => e=.returned (.string (crash s n k))∧Below w.heap.size w w' := by
 cases h:inB n 0 s.size
 · exact lU s n k w h
 · exact kP s n k w h hs
theorem sa (s:ByteArray) (n k:Int) (w:World) (hs:s.size≤1048576):Calls Tryz.prog 19 #[.agg #[.string s,.int .i64 n],.int .i64 k] w fun e w' => e=.returned (.string (crash s n k))∧Below w.heap.size w w' := by
 cases h:inB n 0 s.size
 · exact mz s n k w h
 · exact lp s n k w h hs
end Go.Proofs.YtkpnfbdoaljkpaaGreatDoor
namespace Go.Proofs.YtkpnfbdoaljkpaaGreatDoor.Ab
open Go.RowKit
set_option linter.all false
set_option maxRecDepth 100000
def spCr:FSpec where
 pre args:=∃ (d:ByteArray) (y n:Int),d.size≤1048576∧args=[.val true [.s d,.i .i64 y],.val false [.i .i64 n]]
 res args:=match args with
  | [.val _ [.s d,.i _ y],.val _ [.i _ n]]=>.val false [.s (crash d y n)]
  | _=>.none
theorem kx (d:ByteArray) (y n:Int):(crash d y n).size≤d.size:=by
 unfold crash
 split
 · rw [jbi];omega
 · exact jaU _
theorem FOk.crash {f:FuncId} (hc:∀ args w,(callFunc f args).run Tryz.prog w=.ok (.enter f args) w)
 (h:∀ (s:ByteArray) (n k:Int) (w:World),s.size≤1048576→Calls Tryz.prog f #[.agg #[.string s,.int .i64 n],.int .i64 k] w fun e w' => e=.returned (.string (crash s n k))∧Below w.heap.size w w'):FOk Tryz.prog T f spCr:=by
 refine ⟨hc,fun hb=>(by cases hb),fun _ w X args vals hX hargs hgl hpre=>?_,fun hb=>(by cases hb)⟩
 obtain ⟨d,y,n,hd,rfl⟩:=hpre
 obtain ⟨hvl,hva⟩:=hargs
 match vals,hvl with
 | [v,u],_ =>
 obtain ⟨us,rfl,hl,hu⟩:=hva 0 _ v rfl rfl
 obtain ⟨c,hc1,hc2⟩:=hva 1 _ u rfl rfl
 match us,hl with
 | [u0,u1],_ =>
   obtain ⟨rfl,_⟩:=hu 0 _ _ rfl rfl
   obtain ⟨rfl,_⟩:=hu 1 _ _ rfl rfl
   obtain rfl:CV.i .i64 n=c:=by simpa using hc1
   obtain ⟨rfl,_⟩:=hc2
   refine (h d y n w hd).mono ?_
   rintro e w' ⟨he,hb⟩
   exact ⟨_,fun _=>noB,he,hb,⟨_,rfl,rfl,ja0 (kx d y n) (ja0 hd (by decide))⟩,(fun j b h=>by cases h),(fun j j2 b h=>by cases h)⟩
theorem okCrS:FOk Tryz.prog T 20 spCr:=FOk.crash Tryz.call20 fun s n k w hs=>qE s n k w hs
theorem okCrI:FOk Tryz.prog T 19 spCr:=FOk.crash Tryz.call19 fun s n k w hs=>sa s n k w hs
structure LawCr (rc:ByteArray→Int→List D × Int):Prop where
 bad:∀ (d:ByteArray) (y n:Int),stOk d y=false→crash d y n=⟨#[]⟩
 all:∀ (d:ByteArray) (y n:Int),stOk d y=true→∃ l,(rcA rc d).1=(rcA rc (crash d y n)).1++l
 sure:∀ (d:ByteArray) (y n:Int),stOk d y=true→∃ l,(rcA rc (crash d y n)).1=(rcA rc (d.extract 0 y.toNat)).1++l
theorem lawCr {rc:ByteArray→Int→List D × Int} (F:LawC rc):LawCr rc where
 bad d y n h:=by
  have h' : inB y 0 d.size=false:=h
  unfold crash
  rw [h',if_neg (by decide)]
  rfl
 all d y n h:=by
  have h' : inB y 0 d.size=true:=h
  unfold crash
  rw [if_pos h']
  exact F.pre d _
 sure d y n h:=by
  have h' : inB y 0 d.size=true:=h
  obtain ⟨h0,h1⟩:=qD h
  unfold crash
  rw [if_pos h']
  have e:(d.extract 0 (y+max 0 (min n (d.size - y))).toNat).extract 0 y.toNat=d.extract 0 y.toNat:=by
   apply jcf
   rw [jcK,jcK,jcK,Array.extract_extract]
   congr 1
   omega
  have:=F.pre (d.extract 0 (y+max 0 (min n (d.size - y))).toNat) y.toNat
  rwa [e] at this
end Go.Proofs.YtkpnfbdoaljkpaaGreatDoor.Ab
namespace Go.Proofs.YtkpnfbdoaljkpaaGreatDoor.Ab
open Go.RowKit
set_option linter.all false
set_option maxRecDepth 100000
set_option maxHeartbeats 2000000
theorem ok44:FOk Tryz.prog T 44 (eqS 3):=by
 refine fok (env:=envL []) (N:=26) tabT ae mixed Tryz.func44 rfl Tryz.call44 Tryz.ntmps44 ?_
 rintro args ⟨a,b,rfl⟩ hwf
 have wa:WfD T (.l 3) (.l a):=arg0 hwf (jbb _)
 have wb:WfD T (.l 3) (.l b):=arg1 hwf (jbb _)
 clear hwf
 have la:=wa.len
 refine ⟨by simp,?_⟩
 rw [Tryz.results44]
 repeat' first
  | (refine And.intro ?_ ?_)
  | (intro h)
 all_goals first
  | (show ac _=true;kernel_rfl)|(show aj _ _=true;kernel_rfl)|exact True.intro|exact rfl|exact Or.inr rfl|exact Or.inl rfl
  | exact bN (mm ‹_›)
  | skip
 have hl:=jJ ‹_›
 refine ar (Q:=_) [0,1,5] [] (fun n s=>∃ i:Int,s=([argS 3 a,argS 3 b,.val false [.i .i64 i]],[])∧0≤i∧i≤a.length∧n=a.length - i.toNat∧a.take i.toNat=b.take i.toNat) ?_ ?_
 · exact ⟨rfl,a.length - 0,_,rfl,by omega,by omega,rfl,rfl⟩
 rintro n s ⟨i,rfl,h1,h2,h3,h4⟩
 repeat' first
  | (refine And.intro ?_ ?_)
  | (intro h)
 all_goals first
  | (show ac _=true;kernel_rfl)|(show aj _ _=true;kernel_rfl)|exact True.intro|exact rfl|exact Or.inr rfl|exact Or.inl rfl
  | omega
  | exact jaT ‹_›
  | exact hl ▸ jaT ‹decide (i < (a.length:Int))=true›
  | exact ⟨_,_,rfl⟩
  | exact cF (bP hl h1 h2 ‹_› h4)
  | (have hi:i < (a.length:Int):=jaT ‹_›
     have wra:WfRow T [.i .i64] (a.getD i.toNat []):=wa.row rfl (by omega)
     have wrb:WfRow T [.i .i64] (b.getD i.toNat []):=wb.row rfl (by omega)
     first
      | exact ⟨_,_,wra,wrb,rfl⟩
      | exact ⟨_,_,wra,wrb,jbR (b8 (by omega)) (jcL hs),rfl⟩
      | (refine bN ?_;rintro rfl;simp_all [eqDs,eqD,aF];done)
      | (refine ⟨a.length - (i+1).toNat,by omega,i+1,?_,by omega,by omega,rfl,cv h1 hi hl h4 (cC wra wrb ?_)⟩
         · exact congrArg (fun z=>([argS 3 a,argS 3 b,.val false [.i .i64 z]],[])) (aA h1 hi la)
         · simp_all [eqDs,eqD,aF,csD,CV.d,rowC,ofD,argG,sub,List.zipIdx,List.range,List.range.loop]))
  | rfl
theorem ok180:FOk Tryz.prog T 180 (eqS 9):=by
 refine fok (env:=envL []) (N:=26) tabT ae mixed Tryz.func180 rfl Tryz.call180 Tryz.ntmps180 ?_
 rintro args ⟨a,b,rfl⟩ hwf
 have wa:WfD T (.l 9) (.l a):=arg0 hwf (jbb _)
 have wb:WfD T (.l 9) (.l b):=arg1 hwf (jbb _)
 clear hwf
 have la:=wa.len
 refine ⟨by simp,?_⟩
 rw [Tryz.results180]
 repeat' first
  | (refine And.intro ?_ ?_)
  | (intro h)
 all_goals first
  | (show ac _=true;kernel_rfl)|(show aj _ _=true;kernel_rfl)|exact True.intro|exact rfl|exact Or.inr rfl|exact Or.inl rfl
  | exact bN (mm ‹_›)
  | skip
 have hl:=jJ ‹_›
 refine ar (Q:=_) [0,1,5] [] (fun n s=>∃ i:Int,s=([argS 9 a,argS 9 b,.val false [.i .i64 i]],[])∧0≤i∧i≤a.length∧n=a.length - i.toNat∧a.take i.toNat=b.take i.toNat) ?_ ?_
 · exact ⟨rfl,a.length - 0,_,rfl,by omega,by omega,rfl,rfl⟩
 rintro n s ⟨i,rfl,h1,h2,h3,h4⟩
 repeat' first
  | (refine And.intro ?_ ?_)
  | (intro h)
 all_goals first
  | (show ac _=true;kernel_rfl)|(show aj _ _=true;kernel_rfl)|exact True.intro|exact rfl|exact Or.inr rfl|exact Or.inl rfl
  | omega
  | exact jaT ‹_›
  | exact hl ▸ jaT ‹decide (i < (a.length:Int))=true›
  | exact ⟨_,_,rfl⟩
  | exact cF (bP hl h1 h2 ‹_› h4)
  | (have hi:i < (a.length:Int):=jaT ‹_›
     have wra:WfRow T [.s] (a.getD i.toNat []):=wa.row rfl (by omega)
     have wrb:WfRow T [.s] (b.getD i.toNat []):=wb.row rfl (by omega)
     first
      | exact ⟨_,_,wra,wrb,rfl⟩
      | exact ⟨_,_,wra,wrb,jbR (b8 (by omega)) (jcL hs),rfl⟩
      | (refine bN ?_;rintro rfl;simp_all [eqDs,eqD,aF];done)
      | (refine ⟨a.length - (i+1).toNat,by omega,i+1,?_,by omega,by omega,rfl,cv h1 hi hl h4 (cC wra wrb ?_)⟩
         · exact congrArg (fun z=>([argS 9 a,argS 9 b,.val false [.i .i64 z]],[])) (aA h1 hi la)
         · simp_all [eqDs,eqD,aF,csD,CV.d,rowC,ofD,argG,sub,List.zipIdx,List.range,List.range.loop]))
  | rfl
theorem ok181:FOk Tryz.prog T 181 (eqS 167):=by
 refine fok (env:=envL []) (N:=26) tabT ae mixed Tryz.func181 rfl Tryz.call181 Tryz.ntmps181 ?_
 rintro args ⟨a,b,rfl⟩ hwf
 have wa:WfD T (.l 167) (.l a):=arg0 hwf (jbb _)
 have wb:WfD T (.l 167) (.l b):=arg1 hwf (jbb _)
 clear hwf
 have la:=wa.len
 refine ⟨by simp,?_⟩
 rw [Tryz.results181]
 repeat' first
  | (refine And.intro ?_ ?_)
  | (intro h)
 all_goals first
  | (show ac _=true;kernel_rfl)|(show aj _ _=true;kernel_rfl)|exact True.intro|exact rfl|exact Or.inr rfl|exact Or.inl rfl
  | exact bN (mm ‹_›)
  | skip
 have hl:=jJ ‹_›
 refine ar (Q:=_) [0,1,5] [] (fun n s=>∃ i:Int,s=([argS 167 a,argS 167 b,.val false [.i .i64 i]],[])∧0≤i∧i≤a.length∧n=a.length - i.toNat∧a.take i.toNat=b.take i.toNat) ?_ ?_
 · exact ⟨rfl,a.length - 0,_,rfl,by omega,by omega,rfl,rfl⟩
 rintro n s ⟨i,rfl,h1,h2,h3,h4⟩
 repeat' first
  | (refine And.intro ?_ ?_)
  | (intro h)
 all_goals first
  | (show ac _=true;kernel_rfl)|(show aj _ _=true;kernel_rfl)|exact True.intro|exact rfl|exact Or.inr rfl|exact Or.inl rfl
  | omega
  | exact jaT ‹_›
  | exact hl ▸ jaT ‹decide (i < (a.length:Int))=true›
  | exact ⟨_,_,rfl⟩
  | exact cF (bP hl h1 h2 ‹_› h4)
  | (have hi:i < (a.length:Int):=jaT ‹_›
     have wra:WfRow T [.i .i64,.i .i64] (a.getD i.toNat []):=wa.row rfl (by omega)
     have wrb:WfRow T [.i .i64,.i .i64] (b.getD i.toNat []):=wb.row rfl (by omega)
     first
      | exact ⟨_,_,wra,wrb,rfl⟩
      | exact ⟨_,_,wra,wrb,jbR (b8 (by omega)) (jcL hs),rfl⟩
      | (refine bN ?_;rintro rfl;simp_all [eqDs,eqD,aF];done)
      | (refine ⟨a.length - (i+1).toNat,by omega,i+1,?_,by omega,by omega,rfl,cv h1 hi hl h4 (cC wra wrb ?_)⟩
         · exact congrArg (fun z=>([argS 167 a,argS 167 b,.val false [.i .i64 z]],[])) (aA h1 hi la)
         · simp_all [eqDs,eqD,aF,csD,CV.d,rowC,ofD,argG,sub,List.zipIdx,List.range,List.range.loop]))
  | rfl
theorem wj (n:Nat) (hn:FOk Tryz.prog T 143 (eqFn cV n)):FOk Tryz.prog T 143 (eqFn cV (n+1)):=by
 refine fok (env:=envL [(180,(eqS 9)),(143,(eqFn cV n)),(44,(eqS 3)),(181,(eqS 167))]) (N:=121) tabT (aa ok180 (aa hn (aa ok44 (aa ok181 ae)))) mixed Tryz.func143 rfl Tryz.call143 Tryz.ntmps143 ?_
 rintro args ⟨a,b,wa,wb,hs,rfl⟩ hwf
 refine ⟨by simp,?_⟩
 clear hwf
 have wA0:WfD T (.l 53) (.l (a.getD 4 default).rows):=wa.rows (j:=4) rfl
 have wB0:WfD T (.l 53) (.l (b.getD 4 default).rows):=wb.rows (j:=4) rfl
 have lA0:=wA0.len
 have wA1:WfD T (.l 131) (.l (a.getD 6 default).rows):=wa.rows (j:=6) rfl
 have wB1:WfD T (.l 131) (.l (b.getD 6 default).rows):=wb.rows (j:=6) rfl
 have lA1:=wA1.len
 rw [Tryz.results143]
 repeat' first
  | (refine And.intro ?_ ?_)
  | (intro h;cases h)
  | (intro h;rw [h])
  | (intro h)
 all_goals first
  | (show ac _=true;kernel_rfl)|(show aj _ _=true;kernel_rfl)|exact True.intro|exact rfl|exact Or.inr rfl|exact Or.inl rfl
  | exact ⟨_,_,rfl⟩
  | exact ⟨_,_,wa,wb,rfl⟩
  | exact ⟨sub a 0 1,sub b 0 1,wa.sub 0 1 (by decide),wb.sub 0 1 (by decide),rfl⟩
  | exact ⟨sub a 1 1,sub b 1 1,wa.sub 1 1 (by decide),wb.sub 1 1 (by decide),rfl⟩
  | exact ⟨sub a 2 1,sub b 2 1,wa.sub 2 1 (by decide),wb.sub 2 1 (by decide),rfl⟩
  | exact ⟨sub a 3 1,sub b 3 1,wa.sub 3 1 (by decide),wb.sub 3 1 (by decide),rfl⟩
  | exact ⟨sub a 4 1,sub b 4 1,wa.sub 4 1 (by decide),wb.sub 4 1 (by decide),rfl⟩
  | exact ⟨sub a 5 1,sub b 5 1,wa.sub 5 1 (by decide),wb.sub 5 1 (by decide),rfl⟩
  | exact ⟨sub a 6 1,sub b 6 1,wa.sub 6 1 (by decide),wb.sub 6 1 (by decide),rfl⟩
  | (exact bN (fun he=>by have e:=cC wa wb he;subst e;simp_all [eqDs,eqD,aF]))
  | (exact bN (fun he=>by have e:=cC wa wb he;subst e;simp_all [eqDs,eqD,aF]))
  | (refine cF ?_;simp_all [eqDs,eqD,aF,csD,CV.d,rowC,ofD,argG,sub,List.zipIdx,List.range,List.range.loop];done)
  | (refine fD ?_;simp_all [eqDs,eqD,aF,csD,CV.d,rowC,ofD,argG,sub,List.zipIdx,List.range,List.range.loop];done)
  | skip
 have hl0:(a.getD 4 default).rows.length=(b.getD 4 default).rows.length:=jJ ‹(((a.getD 4 default).rows.length:Int) != ((b.getD 4 default).rows.length:Int))=false›
 refine ar (Q:=_) [2,3,4,7] [3,4] (fun n s=>∃ i:Int,s=([.val false [.b true],.ptr 3 1 0,.ptr 4 1 0,.val false [.i .i64 i]],[(1,(rowC cV a).map fun c=>.val false [c]),(1,(rowC cV b).map fun c=>.val false [c])])∧0≤i∧i≤(a.getD 4 default).rows.length∧n=(a.getD 4 default).rows.length - i.toNat∧(a.getD 4 default).rows.take i.toNat=(b.getD 4 default).rows.take i.toNat) ?_ ?_
 · exact ⟨rfl,(a.getD 4 default).rows.length - 0,_,rfl,by omega,by omega,rfl,rfl⟩
 rintro n0 s ⟨i0,rfl,h10,h20,h30,h40⟩
 repeat' first
  | (refine And.intro ?_ ?_)
  | (intro h;cases h)
  | (intro h;rw [h])
  | (intro h)
 all_goals first
  | (show ac _=true;kernel_rfl)|(show aj _ _=true;kernel_rfl)|exact True.intro|exact rfl|exact Or.inr rfl|exact Or.inl rfl
  | omega
  | exact jaT ‹_›
  | exact hl0 ▸ jaT ‹decide (i0 < ((a.getD 4 default).rows.length:Int))=true›
  | exact ⟨_,_,rfl⟩
  | exact ⟨_,_,wa,wb,rfl⟩
  | exact ⟨sub a 0 1,sub b 0 1,wa.sub 0 1 (by decide),wb.sub 0 1 (by decide),rfl⟩
  | exact ⟨sub a 1 1,sub b 1 1,wa.sub 1 1 (by decide),wb.sub 1 1 (by decide),rfl⟩
  | exact ⟨sub a 2 1,sub b 2 1,wa.sub 2 1 (by decide),wb.sub 2 1 (by decide),rfl⟩
  | exact ⟨sub a 3 1,sub b 3 1,wa.sub 3 1 (by decide),wb.sub 3 1 (by decide),rfl⟩
  | exact ⟨sub a 4 1,sub b 4 1,wa.sub 4 1 (by decide),wb.sub 4 1 (by decide),rfl⟩
  | exact ⟨sub a 5 1,sub b 5 1,wa.sub 5 1 (by decide),wb.sub 5 1 (by decide),rfl⟩
  | exact ⟨sub a 6 1,sub b 6 1,wa.sub 6 1 (by decide),wb.sub 6 1 (by decide),rfl⟩
  | (have hi:i0 < ((a.getD 4 default).rows.length:Int):=jaT ‹decide (i0 < ((a.getD 4 default).rows.length:Int))=true›
     have wra0:WfRow T cV ((a.getD 4 default).rows.getD i0.toNat []):=wA0.row rfl (by omega)
     have wrb0:WfRow T cV ((b.getD 4 default).rows.getD i0.toNat []):=wB0.row rfl (by omega)
     first
      | exact ⟨_,_,wra0,wrb0,rfl⟩
      | exact ⟨_,_,wra0,wrb0,jbR (Nat.lt_trans (b8 (by omega)) (bW (by rw [wa.1];decide))) (jcL hs),rfl⟩
      | (exact bN (fun he=>by have e:=cC wa wb he;subst e;simp_all [eqDs,eqD,aF]))
      | (refine ⟨(a.getD 4 default).rows.length - (i0+1).toNat,by omega,i0+1,?_,by omega,by omega,rfl,cv h10 hi hl0 h40 (cC wra0 wrb0 ?_)⟩
         · exact congrArg (fun z:Int=>(([.val false [.b true],.ptr 3 1 0,.ptr 4 1 0,.val false [.i .i64 z]],[(1,(rowC cV a).map fun c=>.val false [c]),(1,(rowC cV b).map fun c=>.val false [c])]):Snap)) (aA h10 hi lA0)
         · simp_all [eqDs,eqD,aF,csD,CV.d,rowC,ofD,argG,sub,List.zipIdx,List.range,List.range.loop]))
  | (have hA0:(a.getD 4 default).rows=(b.getD 4 default).rows:=bP hl0 h10 h20 ‹_› h40
     first
      | (refine cF ?_;simp_all [eqDs,eqD,aF,csD,CV.d,rowC,ofD,argG,sub,List.zipIdx,List.range,List.range.loop];done)
      | (refine fD ?_;simp_all [eqDs,eqD,aF,csD,CV.d,rowC,ofD,argG,sub,List.zipIdx,List.range,List.range.loop];done)
      | (exact bN (fun he=>by have e:=cC wa wb he;subst e;simp_all [eqDs,eqD,aF])))
  | skip
 have hA0:(a.getD 4 default).rows=(b.getD 4 default).rows:=bP hl0 h10 h20 ‹decide (i0 < ((a.getD 4 default).rows.length:Int))=false› h40
 have hl1:(a.getD 6 default).rows.length=(b.getD 6 default).rows.length:=jJ ‹(((a.getD 6 default).rows.length:Int) != ((b.getD 6 default).rows.length:Int))=false›
 refine ar (Q:=_) [2,3,4,8] [3,4] (fun n s=>∃ i:Int,s=([.val false [.b true],.ptr 3 1 0,.ptr 4 1 0,.val false [.i .i64 i]],[(1,(rowC cV a).map fun c=>.val false [c]),(1,(rowC cV b).map fun c=>.val false [c])])∧0≤i∧i≤(a.getD 6 default).rows.length∧n=(a.getD 6 default).rows.length - i.toNat∧(a.getD 6 default).rows.take i.toNat=(b.getD 6 default).rows.take i.toNat) ?_ ?_
 · exact ⟨rfl,(a.getD 6 default).rows.length - 0,_,rfl,by omega,by omega,rfl,rfl⟩
 rintro n1 s ⟨i1,rfl,h11,h21,h31,h41⟩
 repeat' first
  | (refine And.intro ?_ ?_)
  | (intro h;cases h)
  | (intro h;rw [h])
  | (intro h)
 all_goals first
  | (show ac _=true;kernel_rfl)|(show aj _ _=true;kernel_rfl)|exact True.intro|exact rfl|exact Or.inr rfl|exact Or.inl rfl
  | omega
  | exact jaT ‹_›
  | exact hl1 ▸ jaT ‹decide (i1 < ((a.getD 6 default).rows.length:Int))=true›
  | exact ⟨_,_,rfl⟩
  | exact ⟨_,_,wa,wb,rfl⟩
  | exact ⟨sub a 0 1,sub b 0 1,wa.sub 0 1 (by decide),wb.sub 0 1 (by decide),rfl⟩
  | exact ⟨sub a 1 1,sub b 1 1,wa.sub 1 1 (by decide),wb.sub 1 1 (by decide),rfl⟩
  | exact ⟨sub a 2 1,sub b 2 1,wa.sub 2 1 (by decide),wb.sub 2 1 (by decide),rfl⟩
  | exact ⟨sub a 3 1,sub b 3 1,wa.sub 3 1 (by decide),wb.sub 3 1 (by decide),rfl⟩
  | exact ⟨sub a 4 1,sub b 4 1,wa.sub 4 1 (by decide),wb.sub 4 1 (by decide),rfl⟩
  | exact ⟨sub a 5 1,sub b 5 1,wa.sub 5 1 (by decide),wb.sub 5 1 (by decide),rfl⟩
  | exact ⟨sub a 6 1,sub b 6 1,wa.sub 6 1 (by decide),wb.sub 6 1 (by decide),rfl⟩
  | (have hi:i1 < ((a.getD 6 default).rows.length:Int):=jaT ‹decide (i1 < ((a.getD 6 default).rows.length:Int))=true›
     have wra1:WfRow T [.l 3,.l 167] ((a.getD 6 default).rows.getD i1.toNat []):=wA1.row rfl (by omega)
     have wrb1:WfRow T [.l 3,.l 167] ((b.getD 6 default).rows.getD i1.toNat []):=wB1.row rfl (by omega)
     first
      | exact ⟨_,_,wra1,wrb1,rfl⟩
      | exact ⟨_,_,wra1,wrb1,jbR (Nat.lt_trans (b8 (by omega)) (bW (by rw [wa.1];decide))) (jcL hs),rfl⟩
      | (exact bN (fun he=>by have e:=cC wa wb he;subst e;simp_all [eqDs,eqD,aF]))
      | (refine ⟨(a.getD 6 default).rows.length - (i1+1).toNat,by omega,i1+1,?_,by omega,by omega,rfl,cv h11 hi hl1 h41 (cC wra1 wrb1 ?_)⟩
         · exact congrArg (fun z:Int=>(([.val false [.b true],.ptr 3 1 0,.ptr 4 1 0,.val false [.i .i64 z]],[(1,(rowC cV a).map fun c=>.val false [c]),(1,(rowC cV b).map fun c=>.val false [c])]):Snap)) (aA h11 hi lA1)
         · simp_all [eqDs,eqD,aF,csD,CV.d,rowC,ofD,argG,sub,List.zipIdx,List.range,List.range.loop]))
  | (have hA1:(a.getD 6 default).rows=(b.getD 6 default).rows:=bP hl1 h11 h21 ‹_› h41
     first
      | (refine cF ?_;simp_all [eqDs,eqD,aF,csD,CV.d,rowC,ofD,argG,sub,List.zipIdx,List.range,List.range.loop];done)
      | (refine fD ?_;simp_all [eqDs,eqD,aF,csD,CV.d,rowC,ofD,argG,sub,List.zipIdx,List.range,List.range.loop];done)
      | (exact bN (fun he=>by have e:=cC wa wb he;subst e;simp_all [eqDs,eqD,aF])))
theorem vD:FOk Tryz.prog T 143 (eqFn cV 0):=by
 refine fok (env:=envL []) (N:=121) tabT ae mixed Tryz.func143 rfl Tryz.call143 Tryz.ntmps143 ?_
 rintro args ⟨a,b,wa,wb,hs,rfl⟩ _
 exact absurd hs (jbJ _)
theorem jaO (n:Nat):FOk Tryz.prog T 143 (eqFn cV n):=by
 induction n with
 | zero=>exact vD
 | succ n ih=>exact wj n ih
theorem ok143:FOk Tryz.prog T 143 (eqF cV):=FOk.lift (s:=fun n=>eqFn cV n) jaO (fun args ⟨a,b,wa,wb,h⟩=>⟨SizeOf.sizeOf a+1,a,b,wa,wb,jbT _,h⟩) (fun n=>rfl)
theorem ok92:FOk Tryz.prog T 92 (eqG cV):=by
 refine fok (env:=envL [(143,(eqF cV))]) (N:=8) tabT (aa ok143 ae) mixed Tryz.func92 rfl Tryz.call92 Tryz.ntmps92 ?_
 rintro args ⟨a,b,wa,wb,rfl⟩ hwf
 refine ⟨by simp,?_⟩
 clear hwf
 rw [Tryz.results92]
 repeat' first
  | (refine And.intro ?_ ?_)
  | (intro h;cases h)
  | (intro h;rw [h])
  | (intro h)
 all_goals first
  | (show ac _=true;kernel_rfl)|(show aj _ _=true;kernel_rfl)|exact True.intro|exact rfl|exact Or.inr rfl|exact Or.inl rfl
  | exact ⟨_,_,rfl⟩
  | exact ⟨_,_,wa,wb,rfl⟩
  | exact ⟨sub a 0 1,sub b 0 1,wa.sub 0 1 (by decide),wb.sub 0 1 (by decide),rfl⟩
  | exact ⟨sub a 1 1,sub b 1 1,wa.sub 1 1 (by decide),wb.sub 1 1 (by decide),rfl⟩
  | exact ⟨sub a 2 1,sub b 2 1,wa.sub 2 1 (by decide),wb.sub 2 1 (by decide),rfl⟩
  | exact ⟨sub a 3 1,sub b 3 1,wa.sub 3 1 (by decide),wb.sub 3 1 (by decide),rfl⟩
  | exact ⟨sub a 4 1,sub b 4 1,wa.sub 4 1 (by decide),wb.sub 4 1 (by decide),rfl⟩
  | exact ⟨sub a 5 1,sub b 5 1,wa.sub 5 1 (by decide),wb.sub 5 1 (by decide),rfl⟩
  | exact ⟨sub a 6 1,sub b 6 1,wa.sub 6 1 (by decide),wb.sub 6 1 (by decide),rfl⟩
  | (exact bN (fun he=>by have e:=cC wa wb he;subst e;simp_all [eqDs,eqD,aF]))
  | (exact bN (fun he=>by have e:=cC wa wb he;subst e;simp_all [eqDs,eqD,aF]))
  | (refine cF ?_;simp_all [eqDs,eqD,aF,csD,CV.d,rowC,ofD,argG,sub,List.zipIdx,List.range,List.range.loop];done)
  | (refine fD ?_;simp_all [eqDs,eqD,aF,csD,CV.d,rowC,ofD,argG,sub,List.zipIdx,List.range,List.range.loop];done)
  | skip
theorem ok91:FOk Tryz.prog T 91 (eqP [.i .i64,.i .i64,.i .i64,.s,.i .i64,.i .i64,.i .i64,.s,.l 53,.l 9,.l 131] 4):=by
 refine fok (env:=envL []) (N:=31) tabT ae mixed Tryz.func91 rfl Tryz.call91 Tryz.ntmps91 ?_
 rintro args ⟨a,b,wa,wb,rfl⟩ hwf
 refine ⟨by simp,?_⟩
 clear hwf
 rw [Tryz.results91]
 repeat' first
  | (refine And.intro ?_ ?_)
  | (intro h;cases h)
  | (intro h;rw [h])
  | (intro h)
 all_goals first
  | (show ac _=true;kernel_rfl)|(show aj _ _=true;kernel_rfl)|exact True.intro|exact rfl|exact Or.inr rfl|exact Or.inl rfl
  | exact ⟨_,_,rfl⟩
  | exact ⟨sub a 0 1,sub b 0 1,wa.sub 0 1 (by decide),wb.sub 0 1 (by decide),rfl⟩
  | exact ⟨sub a 1 1,sub b 1 1,wa.sub 1 1 (by decide),wb.sub 1 1 (by decide),rfl⟩
  | exact ⟨sub a 2 1,sub b 2 1,wa.sub 2 1 (by decide),wb.sub 2 1 (by decide),rfl⟩
  | exact ⟨sub a 3 1,sub b 3 1,wa.sub 3 1 (by decide),wb.sub 3 1 (by decide),rfl⟩
  | exact ⟨sub a 4 7,sub b 4 7,wa.sub 4 7 (by decide),wb.sub 4 7 (by decide),rfl⟩
  | (refine bN ?_;simp_all [eqDs,eqD,aF,csD,CV.d,rowC,ofD,argG,sub,List.zipIdx,List.range,List.range.loop];done)
  | (refine bN ?_;simp_all [eqDs,eqD,aF,csD,CV.d,rowC,ofD,argG,sub,List.zipIdx,List.range,List.range.loop];done)
  | (refine cF ?_;simp_all [eqDs,eqD,aF,csD,CV.d,rowC,ofD,argG,sub,List.zipIdx,List.range,List.range.loop];done)
  | (refine fD ?_;simp_all [eqDs,eqD,aF,csD,CV.d,rowC,ofD,argG,sub,List.zipIdx,List.range,List.range.loop];done)
  | skip
theorem ok45:FOk Tryz.prog T 45 (eqS 96):=by
 refine fok (env:=envL [(91,(eqP [.i .i64,.i .i64,.i .i64,.s,.i .i64,.i .i64,.i .i64,.s,.l 53,.l 9,.l 131] 4)),(92,(eqG cV))]) (N:=41) tabT (aa ok91 (aa ok92 ae)) mixed Tryz.func45 rfl Tryz.call45 Tryz.ntmps45 ?_
 rintro args ⟨a,b,rfl⟩ hwf
 refine ⟨by simp,?_⟩
 have wa:WfD T (.l 96) (.l a):=arg0 hwf (jbb _)
 have wb:WfD T (.l 96) (.l b):=arg1 hwf (jbb _)
 clear hwf
 have wA0:=wa
 have wB0:=wb
 have lA0:=wa.len
 rw [Tryz.results45]
 repeat' first
  | (refine And.intro ?_ ?_)
  | (intro h;cases h)
  | (intro h;rw [h])
  | (intro h)
 all_goals first
  | (show ac _=true;kernel_rfl)|(show aj _ _=true;kernel_rfl)|exact True.intro|exact rfl|exact Or.inr rfl|exact Or.inl rfl
  | exact ⟨_,_,rfl⟩
  | exact bN (mm ‹_›)
  | (refine bN ?_;rintro rfl;simp_all [eqDs,eqD,aF];done)
  | (refine cF ?_;simp_all [eqDs,eqD,aF,csD,CV.d,rowC,ofD,argG,sub,List.zipIdx,List.range,List.range.loop];done)
  | (refine fD ?_;simp_all [eqDs,eqD,aF,csD,CV.d,rowC,ofD,argG,sub,List.zipIdx,List.range,List.range.loop];done)
  | skip
 have hl0:a.length=b.length:=jJ ‹_›
 refine ar (Q:=_) [0,1,5] [] (fun n s=>∃ i:Int,s=([argS 96 a,argS 96 b,.val false [.i .i64 i]],[])∧0≤i∧i≤a.length∧n=a.length - i.toNat∧a.take i.toNat=b.take i.toNat) ?_ ?_
 · exact ⟨rfl,a.length - 0,_,rfl,by omega,by omega,rfl,rfl⟩
 rintro n0 s ⟨i0,rfl,h10,h20,h30,h40⟩
 repeat' first
  | (refine And.intro ?_ ?_)
  | (intro h;cases h)
  | (intro h;rw [h])
  | (intro h)
 all_goals first
  | (show ac _=true;kernel_rfl)|(show aj _ _=true;kernel_rfl)|exact True.intro|exact rfl|exact Or.inr rfl|exact Or.inl rfl
  | omega
  | exact jaT ‹_›
  | exact hl0 ▸ jaT ‹decide (i0 < (a.length:Int))=true›
  | exact ⟨_,_,rfl⟩
  | exact cF (bP hl0 h10 h20 ‹_› h40)
  | (have hi:i0 < (a.length:Int):=jaT ‹decide (i0 < (a.length:Int))=true›
     have wra0:WfRow T [.i .i64,.i .i64,.i .i64,.s,.i .i64,.i .i64,.i .i64,.s,.l 53,.l 9,.l 131] (a.getD i0.toNat []):=wA0.row rfl (by omega)
     have wrb0:WfRow T [.i .i64,.i .i64,.i .i64,.s,.i .i64,.i .i64,.i .i64,.s,.l 53,.l 9,.l 131] (b.getD i0.toNat []):=wB0.row rfl (by omega)
     first
      | exact ⟨_,_,wra0,wrb0,rfl⟩
      | exact ⟨sub (a.getD i0.toNat []) 4 7,sub (b.getD i0.toNat []) 4 7,wra0.sub 4 7 (by decide),wrb0.sub 4 7 (by decide),rfl⟩
      | exact ⟨_,_,wra0,wrb0,jbR (Nat.lt_trans (b8 (by omega)) (bW (by rw [wa.1];decide))) (jcL hs),rfl⟩
      | (refine bN ?_;rintro rfl;simp_all [eqDs,eqD,aF];done)
      | (refine ⟨a.length - (i0+1).toNat,by omega,i0+1,?_,by omega,by omega,rfl,cv h10 hi hl0 h40 (cC wra0 wrb0 ?_)⟩
         · exact congrArg (fun z:Int=>(([argS 96 a,argS 96 b,.val false [.i .i64 z]],[]):Snap)) (aA h10 hi lA0)
         · simp_all [eqDs,eqD,aF,csD,CV.d,rowC,ofD,argG,sub,List.zipIdx,List.range,List.range.loop]))
theorem ok17:FOk Tryz.prog T 17 (eqG cO):=by
 refine fok (env:=envL [(44,(eqS 3)),(45,(eqS 96))]) (N:=72) tabT (aa ok44 (aa ok45 ae)) mixed Tryz.func17 rfl Tryz.call17 Tryz.ntmps17 ?_
 rintro args ⟨a,b,wa,wb,rfl⟩ hwf
 refine ⟨by simp,?_⟩
 clear hwf
 rw [Tryz.results17]
 repeat' first
  | (refine And.intro ?_ ?_)
  | (intro h;cases h)
  | (intro h;rw [h])
  | (intro h)
 all_goals first
  | (show ac _=true;kernel_rfl)|(show aj _ _=true;kernel_rfl)|exact True.intro|exact rfl|exact Or.inr rfl|exact Or.inl rfl
  | exact ⟨_,_,rfl⟩
  | exact ⟨_,_,wa,wb,rfl⟩
  | exact ⟨sub a 0 1,sub b 0 1,wa.sub 0 1 (by decide),wb.sub 0 1 (by decide),rfl⟩
  | exact ⟨sub a 1 1,sub b 1 1,wa.sub 1 1 (by decide),wb.sub 1 1 (by decide),rfl⟩
  | exact ⟨sub a 2 1,sub b 2 1,wa.sub 2 1 (by decide),wb.sub 2 1 (by decide),rfl⟩
  | exact ⟨sub a 3 1,sub b 3 1,wa.sub 3 1 (by decide),wb.sub 3 1 (by decide),rfl⟩
  | exact ⟨sub a 4 8,sub b 4 8,wa.sub 4 8 (by decide),wb.sub 4 8 (by decide),rfl⟩
  | exact ⟨sub a 12 1,sub b 12 1,wa.sub 12 1 (by decide),wb.sub 12 1 (by decide),rfl⟩
  | exact ⟨sub a 13 1,sub b 13 1,wa.sub 13 1 (by decide),wb.sub 13 1 (by decide),rfl⟩
  | exact ⟨sub a 14 1,sub b 14 1,wa.sub 14 1 (by decide),wb.sub 14 1 (by decide),rfl⟩
  | exact ⟨sub a 15 1,sub b 15 1,wa.sub 15 1 (by decide),wb.sub 15 1 (by decide),rfl⟩
  | exact ⟨sub a 16 1,sub b 16 1,wa.sub 16 1 (by decide),wb.sub 16 1 (by decide),rfl⟩
  | (exact bN (fun he=>by have e:=cC wa wb he;subst e;simp_all [eqDs,eqD,aF]))
  | (exact bN (fun he=>by have e:=cC wa wb he;subst e;simp_all [eqDs,eqD,aF]))
  | (refine cF ?_;simp_all [eqDs,eqD,aF,csD,CV.d,rowC,ofD,argG,sub,List.zipIdx,List.range,List.range.loop];done)
  | (refine fD ?_;simp_all [eqDs,eqD,aF,csD,CV.d,rowC,ofD,argG,sub,List.zipIdx,List.range,List.range.loop];done)
  | skip
theorem ok16:FOk Tryz.prog T 16 (eqS 33):=by
 refine fok (env:=envL [(17,(eqG cO))]) (N:=27) tabT (aa ok17 ae) mixed Tryz.func16 rfl Tryz.call16 Tryz.ntmps16 ?_
 rintro args ⟨a,b,rfl⟩ hwf
 have wa:WfD T (.l 33) (.l a):=arg0 hwf (jbb _)
 have wb:WfD T (.l 33) (.l b):=arg1 hwf (jbb _)
 clear hwf
 have la:=wa.len
 refine ⟨by simp,?_⟩
 rw [Tryz.results16]
 repeat' first
  | (refine And.intro ?_ ?_)
  | (intro h)
 all_goals first
  | (show ac _=true;kernel_rfl)|(show aj _ _=true;kernel_rfl)|exact True.intro|exact rfl|exact Or.inr rfl|exact Or.inl rfl
  | exact bN (mm ‹_›)
  | skip
 have hl:=jJ ‹_›
 refine ar (Q:=_) [0,1,5] [] (fun n s=>∃ i:Int,s=([argS 33 a,argS 33 b,.val false [.i .i64 i]],[])∧0≤i∧i≤a.length∧n=a.length - i.toNat∧a.take i.toNat=b.take i.toNat) ?_ ?_
 · exact ⟨rfl,a.length - 0,_,rfl,by omega,by omega,rfl,rfl⟩
 rintro n s ⟨i,rfl,h1,h2,h3,h4⟩
 repeat' first
  | (refine And.intro ?_ ?_)
  | (intro h)
 all_goals first
  | (show ac _=true;kernel_rfl)|(show aj _ _=true;kernel_rfl)|exact True.intro|exact rfl|exact Or.inr rfl|exact Or.inl rfl
  | omega
  | exact jaT ‹_›
  | exact hl ▸ jaT ‹decide (i < (a.length:Int))=true›
  | exact ⟨_,_,rfl⟩
  | exact cF (bP hl h1 h2 ‹_› h4)
  | (have hi:i < (a.length:Int):=jaT ‹_›
     have wra:WfRow T cO (a.getD i.toNat []):=wa.row rfl (by omega)
     have wrb:WfRow T cO (b.getD i.toNat []):=wb.row rfl (by omega)
     first
      | exact ⟨_,_,wra,wrb,rfl⟩
      | exact ⟨_,_,wra,wrb,jbR (b8 (by omega)) (jcL hs),rfl⟩
      | (refine bN ?_;rintro rfl;simp_all [eqDs,eqD,aF];done)
      | (refine ⟨a.length - (i+1).toNat,by omega,i+1,?_,by omega,by omega,rfl,cv h1 hi hl h4 (cC wra wrb ?_)⟩
         · exact congrArg (fun z=>([argS 33 a,argS 33 b,.val false [.i .i64 z]],[])) (aA h1 hi la)
         · simp_all [eqDs,eqD,aF,csD,CV.d,rowC,ofD,argG,sub,List.zipIdx,List.range,List.range.loop]))
  | rfl
def yP (e:TypeId):FSpec where
 pre args:=∃ rows:List (List D),args=[argS e rows]
 res args:=match args with
  | [.val _ [.sl _ _ rows]]=>.val false [.b (decide ((rows.length:Int) > 1048576))]
  | _=>.none
def lawB (e:TypeId):FSpec where
 pre args:=∃ rows:List (List D),args=[argS e rows]
 res _:=.val false [.b true]
theorem okBig:FOk Tryz.prog T 9 (yP 5):=by
 refine fok (env:=envL []) (N:=6) tabT ae mixed Tryz.func9 rfl Tryz.call9 Tryz.ntmps9 ?_
 rintro args ⟨rows,rfl⟩ hwf
 clear hwf
 refine ⟨by simp,?_⟩
 rw [Tryz.results9]
 repeat' first
  | (refine And.intro ?_ ?_)
  | (intro h;simp only [reduceCtorEq] at h;done)
  | (intro h;rw [h])
  | (intro h)
 all_goals first
  | (show ac _=true;kernel_rfl)|(show aj _ _=true;kernel_rfl)|exact True.intro|exact Or.inr rfl|exact Or.inl rfl
  | rfl
  | skip
theorem vtS {a:ByteArray} {p:Prop} (h:(!(a.toList == a.toList))=true):p:=by simp at h
theorem vtT {b:Bool} {p:Prop} (e:b=true) (h:b=false):p:=by rw [e] at h;cases h
theorem vtF {b:Bool} {p:Prop} (e:b=false) (h:b=true):p:=by rw [e] at h;cases h
theorem vtN {b:Bool} {p:Prop} (e:b=true) (h:(!b)=true):p:=by rw [e] at h;cases h
theorem vtM {b:Bool} {p:Prop} (e:b=false) (h:(!b)=false):p:=by rw [e] at h;cases h
theorem vtEI {a:Int} {p:Prop} (h:(a == a)=false):p:=by simp at h
theorem vtEE {a:ByteArray} {p:Prop} (h:(a.toList == a.toList)=false):p:=by simp at h
theorem vtDe {a b:List (List D)} {p:Prop} (e:a=b) (h:(!decide (a=b))=true):p:=by subst e;simp at h
set_option maxHeartbeats 8000000 in
theorem core4 {rc:ByteArray→Int→List D × Int} (F:LawC rc) (G:LawCr rc) (h1:FOk Tryz.prog T 14 (spRO rc)) (h2:FOk Tryz.prog T 23 (spOS fun s=>(rcA rc s).2)):FOk Tryz.prog T 4 (lawB 5):=by
 obtain ⟨g18,k18,q18⟩:=any18
 refine fok (env:=envL [(9,(yP 5)),(18, { pre:=fun a=>∃ rows:List (List D),rows.length≤1048576∧a=[argS 5 rows],res:=fun a=>(fun x:((ByteArray × Int) × Int)=>.tup [(true,[.s x.1.1,.i .i64 x.1.2]),(false,[.i .i64 x.2])]) (g18 a) }),(19,spCr),(20,spCr),(21,(qJ T [.s,.i .i64])),(22,(qJ T [.s,.i .i64])),(14,(spRO rc)),(16,(eqS 33)),(23,(spOS fun s=>(rcA rc s).2))]) (N:=106) tabT (aa okBig (aa k18 (aa okCrI (aa okCrS (aa ok21 (aa ok22 (aa h1 (aa ok16 (aa h2 ae))))))))) mixed Tryz.func4 rfl Tryz.call4 Tryz.ntmps4 ?_
 rintro args ⟨rows,rfl⟩ hwf
 refine ⟨by simp,?_⟩
 clear hwf
 rw [Tryz.results4]
 by_cases hbig:(rows.length:Int) > 1048576
 · repeat' first
    | (refine And.intro ?_ ?_)
    | (intro h;exact absurd hbig (ja4 h))
    | (intro h)
   all_goals first
    | (show ac _=true;kernel_rfl)|(show aj _ _=true;kernel_rfl)|exact True.intro|exact Or.inr rfl|exact Or.inl rfl
    | exact ⟨_,rfl⟩
    | exact Eq.refl [CV.b true]
    | rfl
 have hr:rows.length≤1048576:=by omega
 have hbf:decide ((rows.length:Int) > 1048576)=false:=decide_eq_false hbig
 obtain ⟨X,hX⟩:∃ x,g18 [.val false [.sl false 5 rows]]=x:=⟨_,rfl⟩
 have qx:=q18 [.val false [.sl false 5 rows]]
 rw [hX] at qx
 clear k18 q18 h1 h2 hbig
 obtain ⟨⟨xd,xy⟩,xn⟩:=qx
 have dz:X.1.1.size≤1048576:=ja0 xd (by decide)
 have wst:WfRow T [.s,.i .i64] [.s X.1.1,.i X.1.2]:=vO xd xy
 obtain ⟨C,hC⟩:∃ x,crash X.1.1 X.1.2 X.2=x:=⟨_,rfl⟩
 have cz:C.size≤1048576:=by rw [← hC];exact ja0 (kx _ _ _) dz
 cases hs:stOk X.1.1 X.1.2
 · have hs:stOk X.1.1 X.1.2=false:=hs
   have he:C=⟨#[]⟩:=by rw [← hC];exact G.bad _ _ _ hs
   subst he
   repeat' first
    | (refine And.intro ?_ ?_)
    | (rw [hX])
    | (rw [hC])
    | (rw [hA])
    | (rw [hS])
    | (rw [hL])
    | (intro h;simp only [reduceCtorEq] at h;done)
    | (intro h;exact vtT hbf h)
    | (intro h;exact vtF hbf h)
    | (intro h;exact vtS h)
    | (intro h;exact vtEE h)
    | (intro h;exact vtEI h)
    | (rw [hO])
    | (intro h;exact vtT hs h)
    | (intro h;exact vtF hs h)
    | (intro h;exact vtN hs h)
    | (intro h;exact vtM hs h)
    | (intro h;exact absurd (jaT h) hn1)
    | (intro h;exact absurd (jaT h) hn2)
    | (intro h;exact vtDe hq1 h)
    | (intro h;exact vtDe hq2 h)
    | (intro h;rw [h])
    | (intro h)
   all_goals first
    | (show ac _=true;kernel_rfl)|(show aj _ _=true;kernel_rfl)|exact True.intro|exact Or.inr rfl|exact Or.inl rfl
    | exact ⟨_,rfl⟩
    | exact ⟨_,hr,rfl⟩
    | exact Eq.refl [CV.b true]
    | exact hy0
    | exact hy1
    | exact jbE _
    | exact ja7 _
    | exact hle1
    | exact hle2
    | exact hp.1
    | exact hp.2
    | exact ⟨[.s (C.extract 0 L.2.toNat),.i L.2],wx,rfl⟩
    | exact congrArg (fun b:Bool=>[CV.b b]) hval
    | exact ⟨_,_,_,dz,rfl⟩
    | exact ⟨[.s X.1.1,.i X.1.2],wst,rfl⟩
    | exact ⟨_,dz,rfl⟩
    | exact ⟨_,ez,rfl⟩
    | exact ⟨_,cz,rfl⟩
    | exact ⟨_,_,rfl⟩
    | exact vtCr hs
    | skip
 · have hs:stOk X.1.1 X.1.2=true:=hs
   obtain ⟨hy0,hy1⟩:=qD hs
   have ez:(X.1.1.extract (Int.toNat 0) X.1.2.toNat).size≤1048576:=by rw [jbi];omega
   obtain ⟨A,hA⟩:∃ x,rcA rc X.1.1=x:=⟨_,rfl⟩
   obtain ⟨S,hS⟩:∃ x,rcA rc (X.1.1.extract (Int.toNat 0) X.1.2.toNat)=x:=⟨_,rfl⟩
   obtain ⟨L,hL⟩:∃ x,rcA rc C=x:=⟨_,rfl⟩
   obtain ⟨l1,e1⟩:=G.all X.1.1 X.1.2 X.2 hs
   obtain ⟨l2,e2⟩:=G.sure X.1.1 X.1.2 X.2 hs
   have hp:=F.pos C cz
   rw [hC,hA,hL] at e1
   rw [hC,hL,show rcA rc (X.1.1.extract 0 X.1.2.toNat)=S from hS] at e2
   rw [hL] at hp
   have hn1:¬ ((L.1.length:Int) < (S.1.length:Int)):=by rw [e2,jaV];omega
   have hn2:¬ ((L.1.length:Int) > (A.1.length:Int)):=by rw [e1,jaV];omega
   have hq1:L.1=List.drop (Int.toNat 0) (List.take (Int.toNat (L.1.length:Int)) A.1):=by rw [e1,jbf];simp
   have hq2:List.drop (Int.toNat 0) (List.take (Int.toNat (S.1.length:Int)) L.1)=S.1:=by rw [e2,jbf];simp
   have hle1:(L.1.length:Int)≤(A.1.length:Int):=by omega
   have hle2:(S.1.length:Int)≤(L.1.length:Int):=by omega
   have hO:(fun s=>(rcA rc s).2) C=L.2:=congrArg Prod.snd hL
   have hval:stOk (C.extract 0 L.2.toNat) L.2=true:=by
    unfold stOk inR
    rw [jbi]
    have:=hp.1;have:=hp.2
    simp only [ja6,decide_eq_true_eq]
    omega
   have wx:WfRow T [.s,.i .i64] [.s (C.extract 0 L.2.toNat),.i L.2]:=yb (by rw [jbi];omega) (wfI (by have:=hp.1;have:=hp.2;omega))
   repeat' first
    | (refine And.intro ?_ ?_)
    | (rw [hX])
    | (rw [hC])
    | (rw [hA])
    | (rw [hS])
    | (rw [hL])
    | (intro h;simp only [reduceCtorEq] at h;done)
    | (intro h;exact vtT hbf h)
    | (intro h;exact vtF hbf h)
    | (intro h;exact vtS h)
    | (intro h;exact vtEE h)
    | (intro h;exact vtEI h)
    | (rw [hO])
    | (intro h;exact vtT hs h)
    | (intro h;exact vtF hs h)
    | (intro h;exact vtN hs h)
    | (intro h;exact vtM hs h)
    | (intro h;exact absurd (jaT h) hn1)
    | (intro h;exact absurd (jaT h) hn2)
    | (intro h;exact vtDe hq1 h)
    | (intro h;exact vtDe hq2 h)
    | (intro h;rw [h])
    | (intro h)
   all_goals first
    | (show ac _=true;kernel_rfl)|(show aj _ _=true;kernel_rfl)|exact True.intro|exact Or.inr rfl|exact Or.inl rfl
    | exact ⟨_,rfl⟩
    | exact ⟨_,hr,rfl⟩
    | exact Eq.refl [CV.b true]
    | exact hy0
    | exact hy1
    | exact jbE _
    | exact ja7 _
    | exact hle1
    | exact hle2
    | exact hp.1
    | exact hp.2
    | exact ⟨[.s (C.extract 0 L.2.toNat),.i L.2],wx,rfl⟩
    | exact congrArg (fun b:Bool=>[CV.b b]) hval
    | exact ⟨_,_,_,dz,rfl⟩
    | exact ⟨[.s X.1.1,.i X.1.2],wst,rfl⟩
    | exact ⟨_,dz,rfl⟩
    | exact ⟨_,ez,rfl⟩
    | exact ⟨_,cz,rfl⟩
    | exact ⟨_,_,rfl⟩
    | skip
end Go.Proofs.YtkpnfbdoaljkpaaGreatDoor.Ab
