/- A valid value without its rows' origins is canonical, and has the same text. No program's code in sight. And what belongs to it. -/
import Derived.Test.YtppgalpldaibhaaGreatDoorDOa
import Derived.Test.YtppgalpldaibhaaGreatDoorDTa
namespace Go.Proofs.YtppgalpldaibhaaGreatDoor.Ab
open Go.RowKit
set_option linter.unusedVariables false
variable {T:Tab}
theorem WfD.iInv {k:IntKind} {d:D} (h:WfD T (.i k) d):∃ n,d=.i n:=by cases h;exact ⟨_,rfl⟩
theorem WfD.sInv {d:D} (h:WfD T .s d):∃ t,d=.s t:=by cases h;exact ⟨_,rfl⟩
theorem WfD.lInv {e:TypeId} {d:D} (h:WfD T (.l e) d):∃ l,d=.l l:=by cases h <;> exact ⟨_,rfl⟩
theorem WfRow.inv7 {V S R:TypeId} {v:List D} (h:WfRow T [.i .i64,.i .i64,.i .i64,.s,.l V,.l S,.l R] v):∃ k n s t l c r,v=val7 k n s t l c r∧WfD T (.l V) (.l l)∧WfD T (.l S) (.l c)∧WfD T (.l R) (.l r):=by
  obtain ⟨hl,h⟩:=h
  match v,hl,h with
  | [a0,a1,a2,a3,a4,a5,a6],_,h =>
    obtain ⟨k,rfl⟩:=(h 0 _ _ rfl rfl).iInv
    obtain ⟨n,rfl⟩:=(h 1 _ _ rfl rfl).iInv
    obtain ⟨s,rfl⟩:=(h 2 _ _ rfl rfl).iInv
    obtain ⟨t,rfl⟩:=(h 3 _ _ rfl rfl).sInv
    have h4:=h 4 _ _ rfl rfl
    obtain ⟨l,rfl⟩:=h4.lInv
    have h5:=h 5 _ _ rfl rfl
    obtain ⟨c,rfl⟩:=h5.lInv
    have h6:=h 6 _ _ rfl rfl
    obtain ⟨r,rfl⟩:=h6.lInv
    exact ⟨k,n,s,t,l,c,r,rfl,h4,h5,h6⟩
theorem WfRow.inv1s {v:List D} (h:WfRow T [.s] v):∃ t,v=[.s t]:=by
  obtain ⟨hl,h⟩:=h
  match v,hl,h with
  | [a0],_,h =>
    obtain ⟨t,rfl⟩:=(h 0 _ _ rfl rfl).sInv
    exact ⟨t,rfl⟩
theorem WfRow.inv1i {k:IntKind} {v:List D} (h:WfRow T [.i k] v):∃ n,v=[.i n]:=by
  obtain ⟨hl,h⟩:=h
  match v,hl,h with
  | [a0],_,h =>
    obtain ⟨t,rfl⟩:=(h 0 _ _ rfl rfl).iInv
    exact ⟨t,rfl⟩
theorem WfRow.inv2l {A B:TypeId} {v:List D} (h:WfRow T [.l A,.l B] v):∃ a b,v=[.l a,.l b]∧WfD T (.l A) (.l a):=by
  obtain ⟨hl,h⟩:=h
  match v,hl,h with
  | [a0,a1],_,h =>
    have h0:=h 0 _ _ rfl rfl
    obtain ⟨a,rfl⟩:=h0.lInv
    obtain ⟨b,rfl⟩:=(h 1 _ _ rfl rfl).lInv
    exact ⟨a,b,rfl,h0⟩
theorem nilB {t:ByteArray} (h:(t.toList == [])=true):t=ES:=by
  have h:=eq_of_beq h
  rw [ByteArray.toList_eq] at h
  apply ByteArray.ext
  apply Array.ext'
  exact h
theorem nil0 {α:Type} {l:List α} (h:(l.length == 0)=true):l=[]:=by simpa using h
theorem int0 {n m:Int} (h:(n == m)=true):n=m:=by simpa using h
theorem okV_inv {k n s:Int} {t:ByteArray} {l c r:List (List D)} (h:okV (val7 k n s t l c r)=true) :
    (k ≠ 3→l=[])∧(k ≠ 5→c=[]∧r=[])∧(k ≠ 2→t=ES)∧(k ≠ 4→s=0)∧((k=2∨k=3∨k=5)→n=0)∧(k=1∨k=2∨k=3∨k=4∨k=5∨k=6) ∧
    (k=3→∀ i,i < l.length→elK (rAt l i)=true∧okV (rAt l i)=true)∧(k=5→tblOk c r=true):=by
  rw [okV_eq] at h
  have h' : (((k == 3 || l.length == 0) && ((k == 5 || (c.length == 0 && r.length == 0)) && ((k == 2 || t.toList == []) && (k == 4 || s == 0)))) &&
    (if k=1 then inR n (-1000000000) 1000000000 else if k=2 then n == 0 && okTxt t else
     if k=3 then n == 0 && (allB l.length (fun i=>elK (rAt l i) && okV (rAt l i)) && (decide ((l.length:Int)≤8) && decide (depV (val7 k n s t l c r)≤3))) else
     if k=4 then inR n (-1000000000) 1000000000 && inR s (-1000000000) 1000000000 else if k=5 then n == 0 && tblOk c r else
     if k=6 then inR n 1 8 else false))=true:=h
  clear h
  rw [Bool.and_eq_true,Bool.and_eq_true,Bool.and_eq_true,Bool.and_eq_true,Bool.or_eq_true,Bool.or_eq_true,Bool.or_eq_true,Bool.or_eq_true,Bool.and_eq_true] at h'
  obtain ⟨⟨a1,a2,a3,a4⟩,h⟩:=h'
  refine ⟨fun hk=>?_,fun hk=>?_,fun hk=>?_,fun hk=>?_,fun hk=>?_,?_,fun hk i hi=>?_,fun hk=>?_⟩
  · rcases a1 with a|a
    · exact absurd (int0 a) hk
    · exact nil0 a
  · rcases a2 with a|a
    · exact absurd (int0 a) hk
    · exact ⟨nil0 a.1,nil0 a.2⟩
  · rcases a3 with a|a
    · exact absurd (int0 a) hk
    · exact nilB a
  · rcases a4 with a|a
    · exact absurd (int0 a) hk
    · exact int0 a
  · rcases hk with rfl|rfl|rfl
    · rw [if_neg (by decide),if_pos rfl,Bool.and_eq_true] at h;exact int0 h.1
    · rw [if_neg (by decide),if_neg (by decide),if_pos rfl,Bool.and_eq_true] at h;exact int0 h.1
    · rw [if_neg (by decide),if_neg (by decide),if_neg (by decide),if_neg (by decide),if_pos rfl,Bool.and_eq_true] at h;exact int0 h.1
  · split at h
    · omega
    split at h
    · omega
    split at h
    · omega
    split at h
    · omega
    split at h
    · omega
    split at h
    · omega
    · cases h
  · subst hk
    rw [if_neg (by decide),if_neg (by decide),if_pos rfl,Bool.and_eq_true,Bool.and_eq_true] at h
    have:=allB_iff.1 h.2.1 i hi
    rw [Bool.and_eq_true] at this
    exact this
  · subst hk
    rw [if_neg (by decide),if_neg (by decide),if_neg (by decide),if_neg (by decide),if_pos rfl,Bool.and_eq_true] at h
    exact h.2
theorem elK_inv {k n s:Int} {t:ByteArray} {l c r:List (List D)} (h:elK (val7 k n s t l c r)=true):k=1∨k=2∨k=3:=by
  have h' : (k == 1 || (k == 2 || k == 3))=true:=h
  rw [Bool.or_eq_true,Bool.or_eq_true] at h'
  rcases h' with a|a|a
  · exact .inl (int0 a)
  · exact .inr (.inl (int0 a))
  · exact .inr (.inr (int0 a))
theorem rAt_mem {l:List (List D)} {r:List D} (h:r ∈ l):∃ i,i < l.length∧rAt l i=r:=by
  obtain ⟨i,hi,he⟩:=List.mem_iff_getElem.1 h
  exact ⟨i,hi,by show l.getD i []=r;rw [List.getD_eq_getElem?_getD,List.getElem?_eq_getElem hi];exact he⟩
theorem el_can {V S R:TypeId} {te:Ty} (hT:Ab.T V=some te) (hc:te.cts=[.i .i64,.i .i64,.i .i64,.s,.l V,.l S,.l R]):∀ (m:Nat) (v:List D),wRow v < m→WfRow Ab.T te.cts v→okV v=true→elK v=true→Can v
  | 0,_,h,_,_,_=>absurd h (Nat.not_lt_zero _)
  | m+1,v,hm,hw,ho,he=>by
    rw [hc] at hw
    obtain ⟨k,n,s,t,l,c,r,rfl,hl,_,_⟩:=hw.inv7
    obtain ⟨b1,b2,b3,b4,b5,_,b7,_⟩:=okV_inv ho
    rcases elK_inv he with rfl|rfl|rfl
    · obtain rfl:=b1 (by decide)
      obtain ⟨rfl,rfl⟩:=b2 (by decide)
      obtain rfl:=b3 (by decide)
      obtain rfl:=b4 (by decide)
      exact .num n
    · obtain rfl:=b1 (by decide)
      obtain ⟨rfl,rfl⟩:=b2 (by decide)
      obtain rfl:=b4 (by decide)
      obtain rfl:=b5 (.inl rfl)
      exact .txt t
    · obtain ⟨rfl,rfl⟩:=b2 (by decide)
      obtain rfl:=b3 (by decide)
      obtain rfl:=b4 (by decide)
      obtain rfl:=b5 (.inr (.inl rfl))
      refine .lst l fun x hx=>?_
      obtain ⟨i,hi,rfl⟩:=rAt_mem hx
      obtain ⟨e1,e2⟩:=b7 rfl i hi
      have hlt:=wLst (a:=val7 3 0 0 ES l [] []) (k:=i) hi
      exact el_can hT hc m _ (Nat.lt_of_lt_of_le hlt (Nat.lt_succ_iff.1 hm)) (hl.row hT hi) e2 e1
def barR (x:List D):List D:=[.l (x.getD 0 default).rows,.l []]
def strip (v:List D):List D:=val7 (iAt v 0) (iAt v 1) (iAt v 2) (v.getD 3 default).str (lst v) (v.getD 5 default).rows ((v.getD 6 default).rows.map barR)
def asList (x:List D):List D:=vLst ((x.getD 0 default).rows.map fun y=>vNum (iAt y 0))
theorem strs_rows {S:TypeId} {te:Ty} (hT:Ab.T S=some te) (hc:te.cts=[.s]) {c:List (List D)} (h:WfD Ab.T (.l S) (.l c)):strRows (strsOf c)=c:=by
  have e:c.map (fun x=>[D.s (x.getD 0 default).str])=c:=by
    rw [List.map_congr_left (g:=id),List.map_id]
    intro x hx
    obtain ⟨i,hi,rfl⟩:=rAt_mem hx
    have hw:=h.row hT hi
    rw [hc] at hw
    obtain ⟨t,ht⟩:=hw.inv1s
    show [D.s ((rAt c i).getD 0 default).str]=rAt c i
    rw [show rAt c i=[.s t] from ht]
    rfl
  rw [strRows,strsOf,List.map_map]
  exact e
theorem bar_eq {R I B:TypeId} {te ti:Ty} {ik:IntKind} (hT:Ab.T R=some te) (hc:te.cts=[.l I,.l B]) (hTi:Ab.T I=some ti) (hci:ti.cts=[.i ik]) {r:List (List D)} (h:WfD Ab.T (.l R) (.l r)):(r.map asList).map rowOfV=r.map barR:=by
  rw [List.map_map]
  refine List.map_congr_left fun x hx=>?_
  obtain ⟨i,hi,rfl⟩:=rAt_mem hx
  have hw:=h.row hT hi
  rw [hc] at hw
  obtain ⟨a,b,hx',ha⟩:=hw.inv2l
  rw [show rAt r i=[.l a,.l b] from hx']
  show [D.l ((a.map fun y=>vNum (iAt y 0)).map fun y=>[D.i (iAt y 1)]),D.l []]=[D.l a,D.l []]
  rw [List.map_map]
  have e:a.map (fun y=>[D.i (iAt y 0)])=a:=by
    rw [List.map_congr_left (g:=id),List.map_id]
    intro y hy
    obtain ⟨j,hj,rfl⟩:=rAt_mem hy
    have hw:=ha.row hTi hj
    rw [hci] at hw
    obtain ⟨t,ht⟩:=hw.inv1i
    show [D.i (iAt (rAt a j) 0)]=rAt a j
    rw [show rAt a j=[.i t] from ht]
    rfl
  exact congrArg (fun z=>[D.l z,D.l []]) e
theorem rAt_map {f:List D→List D} {l:List (List D)} {i:Nat} (hi:i < l.length):rAt (l.map f) i=f (rAt l i):=by
  show (l.map f).getD i []=f (l.getD i [])
  rw [List.getD_eq_getElem?_getD,List.getD_eq_getElem?_getD,List.getElem?_map,List.getElem?_eq_getElem hi]
  rfl
theorem tblOk_bar {c r:List (List D)} (h:tblOk c r=true):tblOk c (r.map barR)=true:=by
  unfold tblOk at h ⊢
  rw [Bool.and_eq_true,Bool.and_eq_true] at h ⊢
  obtain ⟨h1,h2,h3⟩:=h
  refine ⟨h1,by rw [List.length_map];exact h2,?_⟩
  unfold rowsOk at h3 ⊢
  rw [List.length_map]
  refine allB_iff.2 fun i hi=>?_
  have h4:=allB_iff.1 h3 i hi
  rw [rAt_map hi]
  unfold rowOk at h4 ⊢
  rw [Bool.and_eq_true,Bool.and_eq_true] at h4 ⊢
  exact ⟨⟨h4.1.1,rfl⟩,h4.2⟩
theorem rowsT_bar (r:List (List D)):rowsT (r.map barR)=rowsT r:=by
  unfold rowsT
  rw [List.map_map]
  rfl
theorem top_can {V S R I B:TypeId} {tv ts tr ti:Ty} {ik:IntKind} (hV:Ab.T V=some tv) (hcv:tv.cts=[.i .i64,.i .i64,.i .i64,.s,.l V,.l S,.l R]) (hS:Ab.T S=some ts) (hcs:ts.cts=[.s]) (hR:Ab.T R=some tr) (hcr:tr.cts=[.l I,.l B]) (hI:Ab.T I=some ti) (hci:ti.cts=[.i ik])
    {v:List D} (hw:WfRow Ab.T tv.cts v) (ho:okV v=true):Can (strip v)∧okV (strip v)=true∧fmtV (strip v)=fmtV v:=by
  have hw' := hw
  rw [hcv] at hw'
  obtain ⟨k,n,s,t,l,c,r,rfl,hl,hc,hr⟩:=hw'.inv7
  obtain ⟨b1,b2,b3,b4,b5,b6,b7,b8⟩:=okV_inv ho
  have hs:strip (val7 k n s t l c r)=val7 k n s t l c (r.map barR):=rfl
  rw [hs]
  by_cases hk5:k=5
  · subst hk5
    obtain rfl:=b1 (by decide)
    obtain rfl:=b3 (by decide)
    obtain rfl:=b4 (by decide)
    obtain rfl:=b5 (.inr (.inr rfl))
    refine ⟨?_,?_,?_⟩
    · have:=Can.tbl (strsOf c) (r.map asList)
      rw [strs_rows hS hcs hc,bar_eq hR hcr hI hci hr] at this
      exact this
    · rw [okV_eq]
      show (true && (true && ((ES.toList == []) && true)) && ((0:Int) == 0 && tblOk c (r.map barR)))=true
      rw [tblOk_bar (b8 rfl),nil_toList]
      rfl
    · rw [fmtV_eq,fmtV_eq (val7 5 0 0 ES [] c r)]
      show TBL++joinT (strsOf c) ⟨#[32]⟩++TBM++rowsT (r.map barR)++RPA=TBL++joinT (strsOf c) ⟨#[32]⟩++TBM++rowsT r++RPA
      rw [rowsT_bar]
  · obtain ⟨rfl,rfl⟩:=b2 hk5
    refine ⟨?_,ho,rfl⟩
    show Can (val7 k n s t l [] [])
    rcases b6 with rfl|rfl|rfl|rfl|rfl|rfl
    · exact el_can hV hcv _ _ (Nat.lt_succ_self _) hw ho rfl
    · exact el_can hV hcv _ _ (Nat.lt_succ_self _) hw ho rfl
    · exact el_can hV hcv _ _ (Nat.lt_succ_self _) hw ho rfl
    · obtain rfl:=b1 (by decide)
      obtain rfl:=b3 (by decide)
      exact .str n s
    · exact absurd rfl hk5
    · obtain rfl:=b1 (by decide)
      obtain rfl:=b3 (by decide)
      obtain rfl:=b4 (by decide)
      exact .err n
def Shn (a b:List D):Prop:=iAt b 0=iAt a 0∧iAt b 1=iAt a 1∧iAt b 2=iAt a 2∧(b.getD 3 default).str=(a.getD 3 default).str∧(b.getD 4 default).rows=(a.getD 4 default).rows∧(b.getD 5 default).rows=(a.getD 5 default).rows ∧
  (b.getD 6 default).rows.length=(a.getD 6 default).rows.length∧∀ i,i < (a.getD 6 default).rows.length→(((b.getD 6 default).rows.getD i []).getD 0 default).rows=(((a.getD 6 default).rows.getD i []).getD 0 default).rows
def shF (cts:List CT) (n:Nat):FSpec where
  pre args:=∃ a b:List D,WfRow Ab.T cts a∧WfRow Ab.T cts b∧Shn a b∧wRow a < n∧args=[argG cts a,argG cts b,.val false [.b false]]
  res _:=.val false [.b true]
def shA (cts:List CT):FSpec where
  pre args:=∃ a b:List D,WfRow Ab.T cts a∧WfRow Ab.T cts b∧Shn a b∧args=[argG cts a,argG cts b,.val false [.b false]]
  res _:=.val false [.b true]
def shG (cts:List CT):FSpec where
  pre args:=∃ a b:List D,WfRow Ab.T cts a∧WfRow Ab.T cts b∧Shn a b∧args=[argG cts a,argG cts b]
  res _:=.val false [.b true]
theorem Shn.refl (a:List D):Shn a a:=⟨rfl,rfl,rfl,rfl,rfl,rfl,rfl,fun _ _=>rfl⟩
theorem Shn.strip (a:List D):Shn a (strip a):=by
  refine ⟨rfl,rfl,rfl,rfl,rfl,rfl,?_,fun i hi=>?_⟩
  · show ((a.getD 6 default).rows.map barR).length=_
    rw [List.length_map]
  · show ((rAt ((a.getD 6 default).rows.map barR) i).getD 0 default).rows=_
    rw [rAt_map hi]
    rfl
theorem shI {x y:Int} {p:Prop} (e:y=x) (h:(x != y)=true):p:=by subst e;simp at h
theorem shS {x y:ByteArray} {p:Prop} (e:y=x) (h:(!x.toList == y.toList)=true):p:=by subst e;simp at h
theorem shL {x y:List (List D)} {p:Prop} (e:y=x) (h:((x.length:Int) != (y.length:Int))=true):p:=by subst e;simp at h
theorem shN {x y:List (List D)} {p:Prop} (e:y.length=x.length) (h:((x.length:Int) != (y.length:Int))=true):p:=by rw [e] at h;simp at h
theorem shD {x y:List (List D)} {p:Prop} (e:y=x) (h:(!decide (x=y))=true):p:=by subst e;simp at h
end Go.Proofs.YtppgalpldaibhaaGreatDoor.Ab
namespace Go.Proofs.YtppgalpldaibhaaGreatDoor.Ab
open Go.RowKit
set_option linter.unusedVariables false
set_option linter.unusedSimpArgs false
set_option maxRecDepth 100000
set_option maxHeartbeats 1000000
theorem ok164:FOk Tryz.prog T 164 (eqS 3):=by
  refine fok (env:=envL []) (N:=26) tabT envL_nil mixed Tryz.func164 rfl Tryz.call164 Tryz.ntmps164 ?_
  rintro args ⟨a,b,rfl⟩ hwf
  have wa:WfD T (.l 3) (.l a):=arg0 hwf (List.mem_singleton_self _)
  have wb:WfD T (.l 3) (.l b):=arg1 hwf (List.mem_singleton_self _)
  clear hwf
  have la:=wa.len
  refine ⟨by simp,?_⟩
  rw [Tryz.results164]
  repeat' first
    | (refine And.intro ?_ ?_)
    | (intro h)
  all_goals first
    | (show lowEdges _=true;kernel_rfl)|(show logOk _ _=true;kernel_rfl)|exact True.intro|exact rfl|exact Or.inr rfl|exact Or.inl rfl
    | exact res_no (ne_len ‹_›)
    | skip
  have hl:=eq_len ‹_›
  refine awp_loop (Q:=_) [0,1,12,13] [] (fun n s=>∃ i:Int,s=([argS 3 a,argS 3 b,.val false [.i .i64 a.length],.val false [.i .i64 i]],[])∧0≤i∧i≤a.length∧n=a.length - i.toNat∧a.take i.toNat=b.take i.toNat) ?_ ?_
  · exact ⟨rfl,a.length - 0,_,rfl,by omega,by omega,rfl,rfl⟩
  rintro n s ⟨i,rfl,h1,h2,h3,h4⟩
  repeat' first
    | (refine And.intro ?_ ?_)
    | (intro h)
  all_goals first
    | (show lowEdges _=true;kernel_rfl)|(show logOk _ _=true;kernel_rfl)|exact True.intro|exact rfl|exact Or.inr rfl|exact Or.inl rfl
    | omega
    | exact of_decide_eq_true ‹_›
    | exact hl ▸ of_decide_eq_true ‹decide (i < (a.length:Int))=true›
    | exact ⟨_,_,rfl⟩
    | exact res_yes (eq_of_takes hl h1 h2 ‹_› h4)
    | (have hi:i < (a.length:Int):=of_decide_eq_true ‹_›
       have wra:WfRow T [.i .i64] (a.getD i.toNat []):=wa.row rfl (by omega)
       have wrb:WfRow T [.i .i64] (b.getD i.toNat []):=wb.row rfl (by omega)
       first
         | exact ⟨_,_,wra,wrb,rfl⟩
         | exact ⟨_,_,wra,wrb,Nat.lt_of_lt_of_le (size_row (by omega)) (Nat.le_of_lt_succ hs),rfl⟩
         | (refine res_no ?_;rintro rfl;simp_all [eqDs,eqD,str_inj];done)
         | (refine ⟨a.length - (i+1).toNat,by omega,i+1,?_,by omega,by omega,rfl,takes_next h1 hi hl h4 (row_eq wra wrb ?_)⟩
            · exact congrArg (fun z=>([argS 3 a,argS 3 b,.val false [.i .i64 a.length],.val false [.i .i64 z]],[])) (wrap_next h1 hi la)
            · simp_all [eqDs,eqD,str_inj,csD,CV.d,rowC,ofD,argG,sub,List.zipIdx,List.range,List.range.loop]))
    | rfl
theorem ok163:FOk Tryz.prog T 163 (eqS 9):=by
  refine fok (env:=envL []) (N:=26) tabT envL_nil mixed Tryz.func163 rfl Tryz.call163 Tryz.ntmps163 ?_
  rintro args ⟨a,b,rfl⟩ hwf
  have wa:WfD T (.l 9) (.l a):=arg0 hwf (List.mem_singleton_self _)
  have wb:WfD T (.l 9) (.l b):=arg1 hwf (List.mem_singleton_self _)
  clear hwf
  have la:=wa.len
  refine ⟨by simp,?_⟩
  rw [Tryz.results163]
  repeat' first
    | (refine And.intro ?_ ?_)
    | (intro h)
  all_goals first
    | (show lowEdges _=true;kernel_rfl)|(show logOk _ _=true;kernel_rfl)|exact True.intro|exact rfl|exact Or.inr rfl|exact Or.inl rfl
    | exact res_no (ne_len ‹_›)
    | skip
  have hl:=eq_len ‹_›
  refine awp_loop (Q:=_) [0,1,12,13] [] (fun n s=>∃ i:Int,s=([argS 9 a,argS 9 b,.val false [.i .i64 a.length],.val false [.i .i64 i]],[])∧0≤i∧i≤a.length∧n=a.length - i.toNat∧a.take i.toNat=b.take i.toNat) ?_ ?_
  · exact ⟨rfl,a.length - 0,_,rfl,by omega,by omega,rfl,rfl⟩
  rintro n s ⟨i,rfl,h1,h2,h3,h4⟩
  repeat' first
    | (refine And.intro ?_ ?_)
    | (intro h)
  all_goals first
    | (show lowEdges _=true;kernel_rfl)|(show logOk _ _=true;kernel_rfl)|exact True.intro|exact rfl|exact Or.inr rfl|exact Or.inl rfl
    | omega
    | exact of_decide_eq_true ‹_›
    | exact hl ▸ of_decide_eq_true ‹decide (i < (a.length:Int))=true›
    | exact ⟨_,_,rfl⟩
    | exact res_yes (eq_of_takes hl h1 h2 ‹_› h4)
    | (have hi:i < (a.length:Int):=of_decide_eq_true ‹_›
       have wra:WfRow T [.s] (a.getD i.toNat []):=wa.row rfl (by omega)
       have wrb:WfRow T [.s] (b.getD i.toNat []):=wb.row rfl (by omega)
       first
         | exact ⟨_,_,wra,wrb,rfl⟩
         | exact ⟨_,_,wra,wrb,Nat.lt_of_lt_of_le (size_row (by omega)) (Nat.le_of_lt_succ hs),rfl⟩
         | (refine res_no ?_;rintro rfl;simp_all [eqDs,eqD,str_inj];done)
         | (refine ⟨a.length - (i+1).toNat,by omega,i+1,?_,by omega,by omega,rfl,takes_next h1 hi hl h4 (row_eq wra wrb ?_)⟩
            · exact congrArg (fun z=>([argS 9 a,argS 9 b,.val false [.i .i64 a.length],.val false [.i .i64 z]],[])) (wrap_next h1 hi la)
            · simp_all [eqDs,eqD,str_inj,csD,CV.d,rowC,ofD,argG,sub,List.zipIdx,List.range,List.range.loop]))
    | rfl
theorem ok165:FOk Tryz.prog T 165 (eqS 153):=by
  refine fok (env:=envL []) (N:=26) tabT envL_nil mixed Tryz.func165 rfl Tryz.call165 Tryz.ntmps165 ?_
  rintro args ⟨a,b,rfl⟩ hwf
  have wa:WfD T (.l 153) (.l a):=arg0 hwf (List.mem_singleton_self _)
  have wb:WfD T (.l 153) (.l b):=arg1 hwf (List.mem_singleton_self _)
  clear hwf
  have la:=wa.len
  refine ⟨by simp,?_⟩
  rw [Tryz.results165]
  repeat' first
    | (refine And.intro ?_ ?_)
    | (intro h)
  all_goals first
    | (show lowEdges _=true;kernel_rfl)|(show logOk _ _=true;kernel_rfl)|exact True.intro|exact rfl|exact Or.inr rfl|exact Or.inl rfl
    | exact res_no (ne_len ‹_›)
    | skip
  have hl:=eq_len ‹_›
  refine awp_loop (Q:=_) [0,1,12,13] [] (fun n s=>∃ i:Int,s=([argS 153 a,argS 153 b,.val false [.i .i64 a.length],.val false [.i .i64 i]],[])∧0≤i∧i≤a.length∧n=a.length - i.toNat∧a.take i.toNat=b.take i.toNat) ?_ ?_
  · exact ⟨rfl,a.length - 0,_,rfl,by omega,by omega,rfl,rfl⟩
  rintro n s ⟨i,rfl,h1,h2,h3,h4⟩
  repeat' first
    | (refine And.intro ?_ ?_)
    | (intro h)
  all_goals first
    | (show lowEdges _=true;kernel_rfl)|(show logOk _ _=true;kernel_rfl)|exact True.intro|exact rfl|exact Or.inr rfl|exact Or.inl rfl
    | omega
    | exact of_decide_eq_true ‹_›
    | exact hl ▸ of_decide_eq_true ‹decide (i < (a.length:Int))=true›
    | exact ⟨_,_,rfl⟩
    | exact res_yes (eq_of_takes hl h1 h2 ‹_› h4)
    | (have hi:i < (a.length:Int):=of_decide_eq_true ‹_›
       have wra:WfRow T [.i .i64,.i .i64] (a.getD i.toNat []):=wa.row rfl (by omega)
       have wrb:WfRow T [.i .i64,.i .i64] (b.getD i.toNat []):=wb.row rfl (by omega)
       first
         | exact ⟨_,_,wra,wrb,rfl⟩
         | exact ⟨_,_,wra,wrb,Nat.lt_of_lt_of_le (size_row (by omega)) (Nat.le_of_lt_succ hs),rfl⟩
         | (refine res_no ?_;rintro rfl;simp_all [eqDs,eqD,str_inj];done)
         | (refine ⟨a.length - (i+1).toNat,by omega,i+1,?_,by omega,by omega,rfl,takes_next h1 hi hl h4 (row_eq wra wrb ?_)⟩
            · exact congrArg (fun z=>([argS 153 a,argS 153 b,.val false [.i .i64 a.length],.val false [.i .i64 z]],[])) (wrap_next h1 hi la)
            · simp_all [eqDs,eqD,str_inj,csD,CV.d,rowC,ofD,argG,sub,List.zipIdx,List.range,List.range.loop]))
    | rfl
theorem st85 (n:Nat) (hn:FOk Tryz.prog T 85 (shF [.i .i64,.i .i64,.i .i64,.s,.l 33,.l 9,.l 91] n)):FOk Tryz.prog T 85 (shF [.i .i64,.i .i64,.i .i64,.s,.l 33,.l 9,.l 91] (n+1)):=by
  refine fok (env:=envL [(163,(eqS 9)),(85,(shF [.i .i64,.i .i64,.i .i64,.s,.l 33,.l 9,.l 91] n)),(164,(eqS 3)),(165,(eqS 153))]) (N:=121) tabT (envL_cons ok163 (envL_cons hn (envL_cons ok164 (envL_cons ok165 envL_nil)))) mixed Tryz.func85 rfl Tryz.call85 Tryz.ntmps85 ?_
  rintro args ⟨a,b,wa,wb,⟨e0,e1,e2,e3,e4,e5,e6,e7⟩,hs,rfl⟩ hwf
  refine ⟨by simp,?_⟩
  clear hwf
  have wA:WfD T (.l 33) (.l (a.getD 4 default).rows):=wa.rows (j:=4) rfl
  have lA:=wA.len
  have wR:WfD T (.l 91) (.l (a.getD 6 default).rows):=wa.rows (j:=6) rfl
  have lR:=wR.len
  have wS:WfD T (.l 91) (.l (b.getD 6 default).rows):=wb.rows (j:=6) rfl
  rw [Tryz.results85]
  repeat' first
    | (refine And.intro ?_ ?_)
    | (intro h;cases h)
    | (intro h;rw [h])
    | (intro h)
  all_goals first
    | (show lowEdges _=true;kernel_rfl)|(show logOk _ _=true;kernel_rfl)|exact True.intro|exact rfl|exact Or.inr rfl|exact Or.inl rfl
    | exact ⟨_,_,rfl⟩
    | exact shI e0 (show ((a.getD 0 default).int != (b.getD 0 default).int)=true by assumption)
    | exact shI e1 (show ((a.getD 1 default).int != (b.getD 1 default).int)=true by assumption)
    | exact shI e2 (show ((a.getD 2 default).int != (b.getD 2 default).int)=true by assumption)
    | exact shS e3 (show (!(a.getD 3 default).str.toList == (b.getD 3 default).str.toList)=true by assumption)
    | exact shL e4 (show (((a.getD 4 default).rows.length:Int) != ((b.getD 4 default).rows.length:Int))=true by assumption)
    | exact shD e5 (show (!decide ((a.getD 5 default).rows=(b.getD 5 default).rows))=true by assumption)
    | exact shN e6 (show (((a.getD 6 default).rows.length:Int) != ((b.getD 6 default).rows.length:Int))=true by assumption)
    | skip
  refine awp_loop (Q:=_) [2,3,4,63,64] [3,4] (fun n s=>∃ i:Int,s=([.val false [.b false],.ptr 3 1 0,.ptr 4 1 0,.val false [.i .i64 ((a.getD 4 default).rows.length)],.val false [.i .i64 i]],[(1,(rowC [.i .i64,.i .i64,.i .i64,.s,.l 33,.l 9,.l 91] a).map fun c=>.val false [c]),(1,(rowC [.i .i64,.i .i64,.i .i64,.s,.l 33,.l 9,.l 91] b).map fun c=>.val false [c])])∧0≤i∧i≤(a.getD 4 default).rows.length∧n=(a.getD 4 default).rows.length - i.toNat) ?_ ?_
  · exact ⟨rfl,(a.getD 4 default).rows.length - 0,_,rfl,by omega,by omega,rfl⟩
  rintro n0 s ⟨i0,rfl,h10,h20,h30⟩
  repeat' first
    | (refine And.intro ?_ ?_)
    | (intro h;cases h)
    | (intro h;rw [h])
    | (intro h)
  all_goals first
    | (show lowEdges _=true;kernel_rfl)|(show logOk _ _=true;kernel_rfl)|exact True.intro|exact rfl|exact Or.inr rfl|exact Or.inl rfl
    | omega
    | exact of_decide_eq_true ‹_›
    | exact ⟨_,_,rfl⟩
    | (have hi:i0 < ((a.getD 4 default).rows.length:Int):=of_decide_eq_true ‹decide (i0 < ((a.getD 4 default).rows.length:Int))=true›
       have wr:WfRow T [.i .i64,.i .i64,.i .i64,.s,.l 33,.l 9,.l 91] ((a.getD 4 default).rows.getD i0.toNat []):=wA.row rfl (by omega)
       have hr:(b.getD 4 default).rows.getD i0.toNat []=(a.getD 4 default).rows.getD i0.toNat []:=by rw [e4]
       first
         | (rw [e4];omega)
         | (refine ⟨_,_,wr,(by rw [hr];exact wr),(by rw [hr];exact Shn.refl _),?_,rfl⟩
            have:=wLst (a:=a) (k:=i0.toNat) (by show i0.toNat < (a.getD 4 default).rows.length;omega)
            exact Nat.lt_of_lt_of_le this (Nat.le_of_lt_succ hs))
         | (refine ⟨(a.getD 4 default).rows.length - (i0+1).toNat,by omega,i0+1,?_,by omega,by omega,rfl⟩
            exact congrArg (fun z:Int=>(([.val false [.b false],.ptr 3 1 0,.ptr 4 1 0,.val false [.i .i64 ((a.getD 4 default).rows.length)],.val false [.i .i64 z]],[(1,(rowC [.i .i64,.i .i64,.i .i64,.s,.l 33,.l 9,.l 91] a).map fun c=>.val false [c]),(1,(rowC [.i .i64,.i .i64,.i .i64,.s,.l 33,.l 9,.l 91] b).map fun c=>.val false [c])]):Snap)) (wrap_next h10 hi lA)))
    | skip
  refine awp_loop (Q:=_) [2,3,4,83,84] [3,4] (fun n s=>∃ i:Int,s=([.val false [.b false],.ptr 3 1 0,.ptr 4 1 0,.val false [.i .i64 ((a.getD 6 default).rows.length)],.val false [.i .i64 i]],[(1,(rowC [.i .i64,.i .i64,.i .i64,.s,.l 33,.l 9,.l 91] a).map fun c=>.val false [c]),(1,(rowC [.i .i64,.i .i64,.i .i64,.s,.l 33,.l 9,.l 91] b).map fun c=>.val false [c])])∧0≤i∧i≤(a.getD 6 default).rows.length∧n=(a.getD 6 default).rows.length - i.toNat) ?_ ?_
  · exact ⟨rfl,(a.getD 6 default).rows.length - 0,_,rfl,by omega,by omega,rfl⟩
  rintro n1 s ⟨i1,rfl,h11,h21,h31⟩
  repeat' first
    | (refine And.intro ?_ ?_)
    | (intro h;cases h)
    | (intro h;rw [h])
    | (intro h)
  all_goals first
    | (show lowEdges _=true;kernel_rfl)|(show logOk _ _=true;kernel_rfl)|exact True.intro|exact rfl|exact Or.inr rfl|exact Or.inl rfl
    | omega
    | exact of_decide_eq_true ‹_›
    | exact ⟨_,_,rfl⟩
    | (have hi:i1 < ((a.getD 6 default).rows.length:Int):=of_decide_eq_true ‹decide (i1 < ((a.getD 6 default).rows.length:Int))=true›
       have hk:i1.toNat < (a.getD 6 default).rows.length:=by omega
       first
         | (rw [e6];omega)
         | exact shD (e7 i1.toNat hk) (show (!decide ((((a.getD 6 default).rows.getD i1.toNat []).getD 0 default).rows=(((b.getD 6 default).rows.getD i1.toNat []).getD 0 default).rows))=true by assumption)
         | (refine ⟨(a.getD 6 default).rows.length - (i1+1).toNat,by omega,i1+1,?_,by omega,by omega,rfl⟩
            exact congrArg (fun z:Int=>(([.val false [.b false],.ptr 3 1 0,.ptr 4 1 0,.val false [.i .i64 ((a.getD 6 default).rows.length)],.val false [.i .i64 z]],[(1,(rowC [.i .i64,.i .i64,.i .i64,.s,.l 33,.l 9,.l 91] a).map fun c=>.val false [c]),(1,(rowC [.i .i64,.i .i64,.i .i64,.s,.l 33,.l 9,.l 91] b).map fun c=>.val false [c])]):Snap)) (wrap_next h11 hi lR)))
    | skip
theorem ze85:FOk Tryz.prog T 85 (shF [.i .i64,.i .i64,.i .i64,.s,.l 33,.l 9,.l 91] 0):=by
  refine fok (env:=envL []) (N:=121) tabT envL_nil mixed Tryz.func85 rfl Tryz.call85 Tryz.ntmps85 ?_
  rintro args ⟨a,b,wa,wb,sh,hs,rfl⟩ _
  exact absurd hs (Nat.not_lt_zero _)
theorem all85 (n:Nat):FOk Tryz.prog T 85 (shF [.i .i64,.i .i64,.i .i64,.s,.l 33,.l 9,.l 91] n):=by
  induction n with
  | zero=>exact ze85
  | succ n ih=>exact st85 n ih
theorem sh85:FOk Tryz.prog T 85 (shA [.i .i64,.i .i64,.i .i64,.s,.l 33,.l 9,.l 91]):=FOk.lift (s:=fun n=>shF [.i .i64,.i .i64,.i .i64,.s,.l 33,.l 9,.l 91] n) all85 (fun args ⟨a,b,wa,wb,sh,h⟩=>⟨wRow a+1,a,b,wa,wb,sh,Nat.lt_succ_self _,h⟩) (fun n=>rfl)
theorem sh24:FOk Tryz.prog T 24 (shG [.i .i64,.i .i64,.i .i64,.s,.l 33,.l 9,.l 91]):=by
  refine fok (env:=envL [(85,(shA [.i .i64,.i .i64,.i .i64,.s,.l 33,.l 9,.l 91]))]) (N:=8) tabT (envL_cons sh85 envL_nil) mixed Tryz.func24 rfl Tryz.call24 Tryz.ntmps24 ?_
  rintro args ⟨a,b,wa,wb,sh,rfl⟩ hwf
  refine ⟨by simp,?_⟩
  clear hwf
  rw [Tryz.results24]
  repeat' first
    | (refine And.intro ?_ ?_)
    | (intro h;cases h)
    | (intro h;rw [h])
    | (intro h)
  all_goals first
    | (show lowEdges _=true;kernel_rfl)|(show logOk _ _=true;kernel_rfl)|exact True.intro|exact rfl|exact Or.inr rfl|exact Or.inl rfl
    | exact ⟨_,_,wa,wb,sh,rfl⟩
    | skip
def spU0 (e:TypeId):FSpec where
  pre args:=args=[argS e [],argS e []]
  res _:=.val false [.sl true e []]
def spO0 (cts:List CT) (e:TypeId):FSpec where
  pre args:=∃ a:List D,WfRow Ab.T cts a∧(∀ i,i < (a.getD 6 default).rows.length→(((a.getD 6 default).rows.getD i []).getD 1 default).rows=[])∧args=[argG cts a]
  res _:=.val false [.sl true e []]
theorem no86:FOk Tryz.prog T 86 (spU0 153):=by
  refine fok (env:=envL []) (N:=34) tabT envL_nil mixed Tryz.func86 rfl Tryz.call86 Tryz.ntmps86 ?_
  rintro args rfl hwf
  refine ⟨by simp,?_⟩
  clear hwf
  rw [Tryz.results86]

  refine awp_loop (Q:=_) [0,1,5,6] [] (fun n s=>s=([argS 153 [],argS 153 [],.val false [.sl true 153 []],.val false [.i .i64 0]],[])∧n=0) ?_ ?_
  · exact ⟨rfl,0,rfl,rfl⟩
  rintro n0 s ⟨rfl,rfl⟩
  repeat' first
    | (refine And.intro ?_ ?_)
    | (intro h;exact absurd (show decide ((0:Int) < (0:Int))=true from h) (by decide))
    | (intro h;cases h)
    | (intro h)
  all_goals first
    | (show lowEdges _=true;kernel_rfl)|(show logOk _ _=true;kernel_rfl)|exact True.intro|exact rfl|exact Or.inr rfl|exact Or.inl rfl
    | skip
  refine awp_loop (Q:=_) [0,1,5,7] [] (fun n s=>s=([argS 153 [],argS 153 [],.val false [.sl true 153 []],.val false [.i .i64 0]],[])∧n=0) ?_ ?_
  · exact ⟨rfl,0,rfl,rfl⟩
  rintro n1 s ⟨rfl,rfl⟩
  repeat' first
    | (refine And.intro ?_ ?_)
    | (intro h;exact absurd (show decide ((0:Int) < (0:Int))=true from h) (by decide))
    | (intro h;cases h)
    | (intro h)
  all_goals first
    | (show lowEdges _=true;kernel_rfl)|(show logOk _ _=true;kernel_rfl)|exact True.intro|exact rfl|exact Or.inr rfl|exact Or.inl rfl
    | skip
theorem no25:FOk Tryz.prog T 25 (spO0 [.i .i64,.i .i64,.i .i64,.s,.l 33,.l 9,.l 91] 153):=by
  refine fok (env:=envL [(86,(spU0 153))]) (N:=22) tabT (envL_cons no86 envL_nil) mixed Tryz.func25 rfl Tryz.call25 Tryz.ntmps25 ?_
  rintro args ⟨a,wa,hno,rfl⟩ hwf
  refine ⟨by simp,?_⟩
  clear hwf
  rw [Tryz.results25]

  have wR:=wa.rows (j:=6) rfl
  have lR:=wR.len
  have lR:(a.getD 6 default).rows.length≤maxLen:=lR
  refine awp_loop (Q:=_) [1,3,4] [1] (fun n s=>∃ i:Int,s=([.ptr 1 1 0,.val false [.sl true 153 []],.val false [.i .i64 i]],[(1,(rowC [.i .i64,.i .i64,.i .i64,.s,.l 33,.l 9,.l 91] a).map fun c=>.val false [c])])∧0≤i∧i≤(a.getD 6 default).rows.length∧n=(a.getD 6 default).rows.length - i.toNat) ?_ ?_
  · exact ⟨rfl,(a.getD 6 default).rows.length - 0,_,rfl,by omega,by omega,rfl⟩
  rintro n s ⟨i,rfl,h1,h2,h3⟩
  repeat' first
    | (refine And.intro ?_ ?_)
    | (intro h;cases h)
    | (intro h;rw [h])
    | (intro h)
  all_goals first
    | (show lowEdges _=true;kernel_rfl)|(show logOk _ _=true;kernel_rfl)|exact True.intro|exact rfl|exact Or.inr rfl|exact Or.inl rfl
    | omega
    | exact of_decide_eq_true ‹_›
    | (have hi:i < ((a.getD 6 default).rows.length:Int):=of_decide_eq_true ‹decide (i < ((a.getD 6 default).rows.length:Int))=true›
       have hk:i.toNat < (a.getD 6 default).rows.length:=by omega
       first
         | ((with_reducible show FSpec.pre _ _);show [argS 153 [],argS 153 (((a.getD 6 default).rows.getD i.toNat []).getD 1 default).rows]=[argS 153 [],argS 153 []];rw [hno i.toNat hk])
         | (refine ⟨(a.getD 6 default).rows.length - (i+1).toNat,by omega,i+1,?_,by omega,by omega,rfl⟩
            exact congrArg (fun z:Int=>(([.ptr 1 1 0,.val false [.sl true 153 []],.val false [.i .i64 z]],[(1,(rowC [.i .i64,.i .i64,.i .i64,.s,.l 33,.l 9,.l 91] a).map fun c=>.val false [c])]):Snap)) (wrap_next h1 hi lR)))
    | skip
end Go.Proofs.YtppgalpldaibhaaGreatDoor.Ab
namespace Go.Proofs.YtppgalpldaibhaaGreatDoor.Ab
open Go.RowKit
set_option linter.unusedVariables false
theorem vt_T {v:List D} (hw:WfRow T cV v) (ho:okV v=true):okV (strip v)=true∧pvI (fmtO v)=(strip v,true):=by
  obtain ⟨hc,ho',hf⟩:=top_can (V:=33) (S:=9) (R:=91) rfl rfl rfl rfl rfl rfl rfl rfl hw ho
  refine ⟨ho',?_⟩
  have e:fmtO v=fmtV (strip v):=by rw [fmtO_yes ho,hf]
  rw [e]
  have h2:=(top_back (s:=fmtV (strip v)) hc ho' rfl (n:=5) (Nat.le_refl _)).2
  unfold pvI
  rw [h2]
  show pvOf (strip v) (true && ((fmtV (strip v)).size:Int) == ((fmtV (strip v)).size:Int)) _=_
  rw [show (true && ((fmtV (strip v)).size:Int) == ((fmtV (strip v)).size:Int))=true by simp]
  exact pvOf_yes ho' rfl
theorem vt_F {v:List D} (ho:okV v=false):pvI (fmtO v)=(vNil,false):=by
  rw [fmtO_no ho]
  unfold pvI pvOf
  rw [if_neg (fun h=>h.2.2 nil_toList)]
theorem strip_from (v:List D):∀ i,i < ((strip v).getD 6 default).rows.length→((((strip v).getD 6 default).rows.getD i []).getD 1 default).rows=[]:=by
  intro i hi
  have hi' : i < (v.getD 6 default).rows.length:=by
    have:((v.getD 6 default).rows.map barR).length=(v.getD 6 default).rows.length:=List.length_map ..
    rw [← this];exact hi
  show ((rAt ((v.getD 6 default).rows.map barR) i).getD 1 default).rows=[]
  rw [rAt_map hi']
  rfl
def RdT (pv:ByteArray→List D × Bool):Prop:=∀ v:List D,WfRow T cV v→(okV v=true→okV (strip v)=true∧pv (fmtO v)=(strip v,true))∧(okV v=false→pv (fmtO v)=(vNil,false))
theorem pvI_rt:RdT pvI:=fun v hw=>⟨fun ho=>vt_T hw ho,fun ho=>vt_F ho⟩
theorem vtS {a:ByteArray} {p:Prop} (h:(!a.toList == a.toList)=true):p:=by simp at h
theorem vtB {b c:Bool} {p:Prop} (e:b=c) (h:(b != c)=true):p:=by subst e;simp at h
theorem vtN {b:Bool} {p:Prop} (e:b=true) (h:(!b)=true):p:=by subst e;cases h
theorem vtF {b:Bool} {p:Prop} (e:b=false) (h:(!b)=false):p:=by subst e;cases h
theorem vtO {b:Bool} {p:Prop} (e:b=true) (h:b=false):p:=by rw [e] at h;cases h
end Go.Proofs.YtppgalpldaibhaaGreatDoor.Ab
namespace Go.Proofs.YtppgalpldaibhaaGreatDoor.Ab
open Go.RowKit
set_option linter.unusedVariables false
set_option linter.unusedSimpArgs false
set_option maxRecDepth 100000
set_option maxHeartbeats 2000000
theorem any19 : ∃ g : List SV → VL, FOk Tryz.prog T 19 { pre := fun a => ∃ rows : List (List D), rows.length ≤ 1048576 ∧ a = [argS 5 rows], res := fun a => (fun (x : VL) => .val true [.i .i64 x.k, .i .i64 x.n, .i .i64 x.s, .s x.t, .sl false 33 x.l, .sl false 9 x.c, .sl false 91 x.r]) (g a) } ∧ ∀ a, (fun a => ∃ rows : List (List D), rows.length ≤ 1048576 ∧ a = [argS 5 rows]) a → (∀ b ∈ a, WfSV T b) → (fun x : VL => x.ok T 33 9 91 40000) (g a) := by
  obtain ⟨g71, k71, p71⟩ := any71
  have q71 : ∀ (rows : List (List D)) (i h0 : Int), CurOk rows i → CurOk rows (g71 [curA 5 rows i h0]).2.1 ∧ (fun (a : List SV) (x : VL) => VL.ok T 33 9 91 40000 x) [curA 5 rows i h0] (g71 [curA 5 rows i h0]).1 := fun rows i h0 ok => p71 _ _ ⟨rows, i, h0, ok, rfl⟩ (by intro a ha; cases ha)
  clear p71
  refine fokA (fun _ x => .val true [.i .i64 x.k, .i .i64 x.n, .i .i64 x.s, .s x.t, .sl false 33 x.l, .sl false 9 x.c, .sl false 91 x.r]) (post := fun _ (x : VL) => x.ok T 33 9 91 40000) (env := envL [(72, (spNewC 5)), (71, { pre := fun a => ∃ rows i h0, CurOk rows i ∧ a = [curA 5 rows i h0], res := fun a => (fun (x : VL × Int × Int) => .val true [.i .i64 x.1.k, .i .i64 x.1.n, .i .i64 x.1.s, .s x.1.t, .sl false 33 x.1.l, .sl false 9 x.1.c, .sl false 91 x.1.r]) (g71 a), bx := true, upd := fun a => curU 5 a (g71 a).2.1 (g71 a).2.2 })]) (N := 6) tabT (envL_cons ok72 (envL_cons k71 envL_nil)) mixed Tryz.func19 rfl Tryz.call19 Tryz.ntmps19 ?_
  rintro args ⟨rows, hr, rfl⟩ hwf
  refine ⟨by simp, ?_⟩
  clear hwf
  rw [Tryz.results19]
  repeat' first
    | (refine And.intro ?_ ?_)
    | (intro h; simp only [reduceCtorEq] at h; done)
    | (intro h; rw [h])
    | (intro h)
  all_goals first
    | (show lowEdges _ = true; kernel_rfl) | (show logOk _ _ = true; kernel_rfl) | exact True.intro | exact Or.inr rfl | exact Or.inl rfl
    | exact ⟨_, hr, rfl⟩
    | exact ⟨_, _, _, cur0 hr, rfl⟩
    | (show List.length _ = _; rfl)
    | (refine ⟨⟨_, _, _, _, _, _, _⟩, ?_, rfl, True.intro⟩; exact (q71 rows 0 (hOf (bytesL rows)) (cur0 hr)).2)
    | skip
theorem core4 {pv:ByteArray→List D × Bool} (F:RdV pv) (R:RdT pv) (h1:FOk Tryz.prog T 21 (spPV2 [.i .i64,.i .i64,.i .i64,.s,.l 33,.l 9,.l 91] pv)):FOk Tryz.prog T 4 (lawB 5):=by
  obtain ⟨g,k,q⟩:=any19
  refine fok (env:=envL [(18,(spBig 5)),(19, { pre:=fun a=>∃ rows:List (List D),rows.length≤1048576∧a=[argS 5 rows],res:=fun a=>(fun (x:VL)=>.val true [.i .i64 x.k,.i .i64 x.n,.i .i64 x.s,.s x.t,.sl false 33 x.l,.sl false 9 x.c,.sl false 91 x.r]) (g a) }),(20,(spGT T [.i .i64,.i .i64,.i .i64,.s,.l 33,.l 9,.l 91] SmM fmtO)),(21,(spPV2 [.i .i64,.i .i64,.i .i64,.s,.l 33,.l 9,.l 91] pv)),(22,(spGT T [.i .i64,.i .i64,.i .i64,.s,.l 33,.l 9,.l 91] SmM fmtO)),(23,(spGB T [.i .i64,.i .i64,.i .i64,.s,.l 33,.l 9,.l 91] SmM okV)),(24,(shG [.i .i64,.i .i64,.i .i64,.s,.l 33,.l 9,.l 91])),(25,(spO0 [.i .i64,.i .i64,.i .i64,.s,.l 33,.l 9,.l 91] 153))]) (N:=45) tabT (envL_cons ok18 (envL_cons k (envL_cons xk20 (envL_cons h1 (envL_cons xk22 (envL_cons xk23 (envL_cons sh24 (envL_cons no25 envL_nil)))))))) mixed Tryz.func4 rfl Tryz.call4 Tryz.ntmps4 ?_
  rintro args ⟨rows,rfl⟩ hwf
  refine ⟨by simp,?_⟩
  rw [Tryz.results4]
  by_cases hbig:(rows.length:Int) > 1048576
  · clear hwf q
    repeat' first
      | (refine And.intro ?_ ?_)
      | (intro h;exact absurd hbig (of_decide_eq_false h))
      | (intro h)
    all_goals first
      | (show lowEdges _=true;kernel_rfl)|(show logOk _ _=true;kernel_rfl)|exact True.intro|exact Or.inr rfl|exact Or.inl rfl
      | exact ⟨_,rfl⟩
      | rfl
  have hr:rows.length≤1048576:=by omega
  have hx:(g [argS 5 rows]).ok T 33 9 91 40000:=q [argS 5 rows] ⟨rows,hr,rfl⟩ hwf
  clear hwf q
  have wx:WfRow T [.i .i64,.i .i64,.i .i64,.s,.l 33,.l 9,.l 91] (VL.row (g [argS 5 rows])):=hx.wf (by decide)
  have wm:SmM (VL.row (g [argS 5 rows])):=by unfold SmM;rw [VL.w];exact Nat.le_trans hx.2.2.2.1 (by decide)
  obtain ⟨w2,wm2,wf⟩:=F (fmtO (VL.row (g [argS 5 rows]))) (Nat.le_trans (fmtO_size _) (by decide))
  have w7:csD (rowC [.i .i64,.i .i64,.i .i64,.s,.l 33,.l 9,.l 91] (pv (fmtO (VL.row (g [argS 5 rows])))).1)=(pv (fmtO (VL.row (g [argS 5 rows])))).1:=csD_rowC w2
  cases ho:okV (VL.row (g [argS 5 rows])) with
  | true =>
    obtain ⟨ho2,hp⟩:=(R _ wx).1 ho
    have h2:(pv (fmtO (VL.row (g [argS 5 rows])))).2=okV (VL.row (g [argS 5 rows])):=by rw [hp,ho]
    have hT:(pv (fmtO (VL.row (g [argS 5 rows])))).2=true:=by rw [hp]
    have hsh:Shn (VL.row (g [argS 5 rows])) (pv (fmtO (VL.row (g [argS 5 rows])))).1:=by rw [hp];exact Shn.strip _
    have hok:okV (csD (rowC [.i .i64,.i .i64,.i .i64,.s,.l 33,.l 9,.l 91] (pv (fmtO (VL.row (g [argS 5 rows])))).1))=true:=by rw [w7,hp];exact ho2
    have hno:∀ i,i < ((pv (fmtO (VL.row (g [argS 5 rows])))).1.getD 6 default).rows.length→((((pv (fmtO (VL.row (g [argS 5 rows])))).1.getD 6 default).rows.getD i []).getD 1 default).rows=[]:=by rw [hp];exact strip_from _
    clear ho2 hp ho F R wf
    repeat' first
      | (refine And.intro ?_ ?_)
      | (intro h;simp only [reduceCtorEq] at h;done)
      | (intro h;rw [h])
      | (intro h)
    all_goals first
    | (show lowEdges _=true;kernel_rfl)|(show logOk _ _=true;kernel_rfl)|exact True.intro|exact Or.inr rfl|exact Or.inl rfl
    | exact ⟨_,rfl⟩
    | exact ⟨_,hr,rfl⟩
    | exact ⟨VL.row (g [argS 5 rows]),wx,wm,rfl⟩
    | exact ⟨fmtO (VL.row (g [argS 5 rows])),Nat.le_trans (fmtO_size _) (by decide),rfl⟩
    | exact ⟨VL.row (g [argS 5 rows]),(pv (fmtO (VL.row (g [argS 5 rows])))).1,wx,w2,hsh,rfl⟩
    | exact ⟨(pv (fmtO (VL.row (g [argS 5 rows])))).1,w2,wm2,rfl⟩
    | exact ⟨(pv (fmtO (VL.row (g [argS 5 rows])))).1,w2,hno,rfl⟩
    | ((with_reducible show [CV.b true]=[CV.b true]);rfl)
    | exact vtS (a:=fmtO (VL.row (g [argS 5 rows]))) (by assumption)
    | exact vtB (b:=(pv (fmtO (VL.row (g [argS 5 rows])))).2) (c:=okV (VL.row (g [argS 5 rows]))) h2 (by assumption)
    | exact vtN hT (by assumption)
    | exact vtO hok (by assumption)
    | exact congrArg (fun b=>[CV.b b]) (show ((([]:List (List D)).length:Int) == 0)=true by rfl)
    | skip
  | false =>
    have hp:=(R _ wx).2 ho
    have h2:(pv (fmtO (VL.row (g [argS 5 rows])))).2=okV (VL.row (g [argS 5 rows])):=by rw [hp,ho]
    have hT:(pv (fmtO (VL.row (g [argS 5 rows])))).2=false:=by rw [hp]
    have hsh:(pv (fmtO (VL.row (g [argS 5 rows])))).2=true→Shn (VL.row (g [argS 5 rows])) (pv (fmtO (VL.row (g [argS 5 rows])))).1:=fun h=>by rw [hT] at h;cases h
    have hno:True:=trivial
    clear hp ho F R wf
    repeat' first
      | (refine And.intro ?_ ?_)
      | (intro h;simp only [reduceCtorEq] at h;done)
      | (intro h;rw [h])
      | (intro h)
    all_goals first
    | (show lowEdges _=true;kernel_rfl)|(show logOk _ _=true;kernel_rfl)|exact True.intro|exact Or.inr rfl|exact Or.inl rfl
    | exact ⟨_,rfl⟩
    | exact ⟨_,hr,rfl⟩
    | exact ⟨VL.row (g [argS 5 rows]),wx,wm,rfl⟩
    | exact ⟨fmtO (VL.row (g [argS 5 rows])),Nat.le_trans (fmtO_size _) (by decide),rfl⟩
    | exact ⟨VL.row (g [argS 5 rows]),(pv (fmtO (VL.row (g [argS 5 rows])))).1,wx,w2,hsh,rfl⟩
    | exact ⟨(pv (fmtO (VL.row (g [argS 5 rows])))).1,w2,wm2,rfl⟩
    | exact ⟨(pv (fmtO (VL.row (g [argS 5 rows])))).1,w2,hno,rfl⟩
    | ((with_reducible show [CV.b true]=[CV.b true]);rfl)
    | exact vtS (a:=fmtO (VL.row (g [argS 5 rows]))) (by assumption)
    | exact vtB (b:=(pv (fmtO (VL.row (g [argS 5 rows])))).2) (c:=okV (VL.row (g [argS 5 rows]))) h2 (by assumption)
    | exact vtF hT (by assumption)
    | skip
theorem law4:FOk Tryz.prog T 4 (lawB 5):=core4 pvI_rd pvI_rt (FOk.pv2 (Nat.le_refl _) (xk21 1048577))
end Go.Proofs.YtppgalpldaibhaaGreatDoor.Ab
namespace Go.Proofs.YtppgalpldaibhaaGreatDoor
open Go.ChangeShapes Go.WideShapes Go.ChangeAt Go.RowKit Ab
set_option linter.unusedVariables false
set_option maxRecDepth 100000
theorem flatValueText:[27,5].all (flatOk Tryz.prog T [27,5])=true:=by kernel_rfl
theorem walkFnValueText {H:Type} {enc:TypeId × Value→H} (W:World) {base:Nat} (hL:GlR T W (fun _=>False)) {v0:Value} {d0:DataW H} {p0:List MemPlace} (k0:Value.okWide Tryz.prog W .any base 27 v0) (h0:DataW.Trod enc Tryz.prog W 0 (fun _=>true) true 27 v0 d0 p0) :
    Calls Tryz.prog 4 #[v0] W fun e W' => e=.returned (.bool true)∧Below W.heap.size W W' := by
  obtain ⟨a,n,c,rfl⟩:=okWide_slice Tryz.underlying27 k0
  obtain ⟨m0,t0⟩:=h0
  obtain ⟨ty0,r0,e0,w0⟩:=row_of_trod tabT flatValueText m0 27 _ _ (by decide) t0
  obtain rfl:⟨false,[.l 5],_,_,_,_⟩=ty0:=Option.some.inj e0
  have g0:RowR T W (fun _=>False) [.l 5] [.slice a n c] r0:=w0
  refine (law4.ok rfl W (fun _=>False) [argS 5 (r0.getD 0 default).rows] [.slice a n c] (fun b h=>h.elim) (ArgsR.cons g0.argS ArgsR.nil) hL ⟨_,rfl⟩).mono fun e W' ⟨v,bk,he,hb,hr,_⟩=>?_
  obtain ⟨c',hc,hv⟩:=hr
  obtain rfl:CV.b true=c' := by simpa using hc
  subst he
  refine ⟨?_,hb⟩
  have hv:v=.bool true:=hv
  rw [hv]
end Go.Proofs.YtppgalpldaibhaaGreatDoor
