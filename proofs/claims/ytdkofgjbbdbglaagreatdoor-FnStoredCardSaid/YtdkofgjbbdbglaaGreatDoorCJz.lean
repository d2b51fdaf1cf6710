/- A part. -/
import Derived.Test.YtdkofgjbbdbglaaGreatDoorCJe
import Derived.Test.YtdkofgjbbdbglaaGreatDoorCOg
namespace Go.Proofs.YtdkofgjbbdbglaaGreatDoor.Ab
open Go.RowKit
set_option linter.all false
set_option maxRecDepth 100000
set_option maxHeartbeats 1000000
def stOk (d:ByteArray) (n:Int):Bool:=inR n 0 d.size
def vo (T:Tab) (st:List CT):FSpec where
 pre args:=∃ s:List D,WfRow T st s∧args=[argG st s]
 res args:=match args with
  | [.val _ [.s d,.i _ n]]=>.val false [.b (stOk d n)]
  | _=>.none
def vp (T:Tab) (st:List CT):FSpec where
 pre args:=∃ s:List D,WfRow T st s∧args=[argG st s]
 res args:=match args with
  | [.val _ [.s d,.i _ n]]=>.val true [.s d,.i .i64 d.size]
  | _=>.none
def wrD (t d:ByteArray) (n:Int):ByteArray:=if stOk d n && !decide (t.data.toList=[]) then d++t else d
def wrB (t d:ByteArray) (n:Int):Bool:=stOk d n && !decide (t.data.toList=[])
def spWr (T:Tab) (st cts:List CT) (Sm:List D→Prop) (g:List D→ByteArray):FSpec where
 pre args:=∃ s a:List D,WfRow T st s∧WfRow T cts a∧Sm a∧(s.getD 0 default).str.size≤70368744177664∧args=[argG st s,argG cts a]
 res args:=match args with
  | [.val _ [.s d,.i _ n],.val _ cs]=>.tup [(true,[.s (wrD (g (csD cs)) d n),.i .i64 n]),(false,[.b (wrB (g (csD cs)) d n)])]
  | _=>.none
theorem ru {t d:ByteArray} {n:Int} (h:stOk d n=false):wrD t d n=d∧wrB t d n=false:=by
 unfold wrD wrB
 rw [h]
 exact ⟨rfl,rfl⟩
theorem nW {t d:ByteArray} {n:Int} (h:t.data.toList=[]):wrD t d n=d∧wrB t d n=false:=by
 unfold wrD wrB
 rw [decide_eq_true h,jd1,jdF]
 exact ⟨rfl,rfl⟩
theorem rt {t d:ByteArray} {n:Int} (h:stOk d n=true) (h2:t.data.toList ≠ []):wrD t d n=d++t∧wrB t d n=true:=by
 unfold wrD wrB
 rw [h,decide_eq_false h2]
 exact ⟨rfl,rfl⟩
theorem pP {t d:ByteArray} {n:Int} (h:(!stOk d n)=true):[(true,[CV.s d,CV.i .i64 n]),(false,[CV.b false])]=[(true,[CV.s (wrD t d n),CV.i .i64 n]),(false,[CV.b (wrB t d n)])]:=by
 have:=ru (t:=t) (show stOk d n=false by simpa using h)
 rw [this.1,this.2]
theorem mZ {t d:ByteArray} {n:Int} (h:(t.toList == (⟨#[]⟩:ByteArray).toList)=true):[(true,[CV.s d,CV.i .i64 n]),(false,[CV.b false])]=[(true,[CV.s (wrD t d n),CV.i .i64 n]),(false,[CV.b (wrB t d n)])]:=by
 have:=nW (d:=d) (n:=n) (mO h)
 rw [this.1,this.2]
theorem pO {t d:ByteArray} {n:Int} (h:(!stOk d n)=false) (h2:(t.toList == (⟨#[]⟩:ByteArray).toList)=false):[(true,[CV.s (d++t),CV.i .i64 n]),(false,[CV.b true])]=[(true,[CV.s (wrD t d n),CV.i .i64 n]),(false,[CV.b (wrB t d n)])]:=by
 have:=rt (show stOk d n=true by simpa using h) (fp h2)
 rw [this.1,this.2]
theorem jam {t d:ByteArray} (hd:d.size≤70368744177664) (ht:t.size≤140737488355340):d.size+t.size≤maxLen:=by
 simp only [maxLen];omega
theorem vM {a:List D} {M:Nat} (hM:31≤M) (hr:(rds a).length≤1048576) (h4:∀ j,j=9∨j=10∨j=12∨j=13→2 * (a.getD j default).str.size+1≤M) (hrd:∀ i,i < (rds a).length→2 * (((rds a).getD i []).getD 3 default).str.size+1≤M) (hg:bn a=true):(bg (strsOf (aL a (rds a).length)) ⟨#[32]⟩).size≤((a.getD 3 default).rows.length+16+5 * (rds a).length) * (M+1):=by
 have hl:(strsOf (aL a (rds a).length)).length=(a.getD 3 default).rows.length+16+5 * (rds a).length:=by rw [strsOf,jdi,bu (jdm _)]
 simp only [bn,jdj] at hg
 have hw:∀ r ∈ aL a (rds a).length,wN M r:=by
  have nums:∀ r ∈ aD a (rds a).length,(aB (intOf r)).size≤M:=fun r hr=>jdd (dh (jdt.1 hg.2.1 r hr)) (by omega)
  have enc:∀ s:ByteArray,2 * s.size+1≤M→(encB s).size≤M:=fun s h=>by have:=nJ s;omega
  have n14:(aB (a.getD 14 default).int).size≤M:=nums (numI (a.getD 14 default).int) (by simp [aD,ints])
  have n15:(aB (a.getD 15 default).int).size≤M:=nums (numI (a.getD 15 default).int) (by simp [aD,ints])
  have nl:(aB ((rds a).length:Int)).size≤M:=jdd (dh (by simp only [inR,jdj,decide_eq_true_eq];omega)) (by omega)
  intro r hr
  unfold aL dn dq at hr
  rcases jdG.1 hr with hr|hr
  · rcases jdG.1 hr with hr|hr
    · rcases jdG.1 hr with hr|hr
      · obtain ⟨x,hx,rfl⟩:=jdO.1 hr
        exact nums x (by unfold aD;exact jeN _ (jeN _ hx))
      · simp only [jde,jda,or_false] at hr
        rcases hr with rfl|rfl|rfl|rfl
        · exact enc _ (h4 9 (.inl rfl))
        · exact enc _ (h4 10 (.inr (.inl rfl)))
        · exact enc _ (h4 12 (.inr (.inr (.inl rfl))))
        · exact enc _ (h4 13 (.inr (.inr (.inr rfl))))
    · simp only [jde,jda,or_false] at hr
      rcases hr with rfl|rfl|rfl
      · exact n14
      · exact n15
      · exact nl
  · rw [jdZ] at hr
    obtain ⟨x,hx,hr⟩:=jeG.1 hr
    have hgx:=jdt.1 hg.1 x hx
    obtain ⟨i,hi,he⟩:=jeM.1 hx
    have hb:=hrd i hi
    rw [show (rds a).getD i []=x by rw [jdb,jc5 hi,he];rfl] at hb
    have hin:∀ j,j=0∨j=1∨j=2→(aB (x.getD j default).int).size≤M:=fun j hj=>nums (numI (x.getD j default).int) (by
     unfold aD
     refine List.mem_append_right _ ?_
     rw [jdZ]
     refine jeG.2 ⟨x,hx,?_⟩
     rcases hj with rfl|rfl|rfl <;> simp [em,ints])
    simp only [bj,jde,jda,or_false] at hr
    rcases hr with rfl|rfl|rfl|rfl|rfl
    · exact hin 0 (.inl rfl)
    · exact hin 1 (.inr (.inl rfl))
    · exact hin 2 (.inr (.inr rfl))
    · exact enc _ hb
    · exact enc _ (by have:=dX (cS hgx) (cf hgx);omega)
 have:=df (xs:=strsOf (aL a (rds a).length)) (sep:=⟨#[32]⟩) (M:=M) (fun x hx=>by
  obtain ⟨r,hr,rfl⟩:=jdO.1 hx
  exact hw r hr)
 rw [hl] at this
 exact this
theorem RdD.wf {r:List D} (h:RdD r):WfRow T cRd r:=by
 obtain ⟨k,n,t,s,v,rfl,h1,h2,h3,h4,h5⟩:=h
 refine ⟨rfl,fun j ct d hc hd=>?_⟩
 match j with
 | 0=>cases hc;cases hd;exact .int _ _ h1
 | 1=>cases hc;cases hd;exact .int _ _ h2
 | 2=>cases hc;cases hd;exact .int _ _ h3
 | 3=>cases hc;cases hd;exact .str _ (jdd h4 (by decide))
 | 4=>cases hc;cases hd;exact .int _ _ kk1
 | 5=>cases hc;cases hd;exact .int _ _ h5
 | 6=>cases hc;cases hd;exact .int _ _ kk0
 | 7=>cases hc;cases hd;exact .str _ (jc7 _)
 | 8=>cases hc;cases hd;exact .nil _
 | 9=>cases hc;cases hd;exact .nil _
 | 10=>cases hc;cases hd;exact .nil _
 | j+11=>simp at hc
theorem OpD.wf {r:List D} (h:OpD r):WfRow T cO r:=by
 obtain ⟨x,rfl,h0,h1,h2,h3,⟨e0,e1,e2,c1,c2,c3,c4,c5⟩,h5,h6,h7,h8,h9⟩:=h
 refine ⟨rfl,fun j ct d hc hd=>?_⟩
 match j with
 | 0=>cases hc;cases hd;exact .int _ _ h0
 | 1=>cases hc;cases hd;exact .int _ _ h1
 | 2=>cases hc;cases hd;exact .int _ _ h2
 | 3 =>
   cases hc;cases hd
   refine WfD.ofRows (e:=3) (te:=_) rfl (jdd h3.1 (by decide)) fun r hr=>?_
   obtain ⟨n,rfl,hn⟩:=h3.2 r hr
   exact jat hn
 | 4=>cases hc;cases hd;exact .int _ _ e0
 | 5=>cases hc;cases hd;exact .int _ _ e1
 | 6=>cases hc;cases hd;exact .int _ _ e2
 | 7=>cases hc;cases hd;exact .int _ _ c1
 | 8=>cases hc;cases hd;exact .int _ _ c2
 | 9=>cases hc;cases hd;exact .str _ (jdd c3 (by decide))
 | 10=>cases hc;cases hd;exact .str _ (jdd c4 (by decide))
 | 11=>cases hc;cases hd;exact .int _ _ c5
 | 12=>cases hc;cases hd;exact .str _ (jdd h5 (by decide))
 | 13=>cases hc;cases hd;exact .str _ (jdd h6 (by decide))
 | 14=>cases hc;cases hd;exact .int _ _ h7
 | 15=>cases hc;cases hd;exact .int _ _ h8
 | 16 =>
   cases hc;cases hd
   refine WfD.ofRows (e:=76) (te:=_) rfl (jdd h9.1 (by decide)) fun r hr=>?_
   exact (h9.2 r hr).wf
 | j+17=>simp at hc
theorem RdD.txt {r:List D} (h:RdD r):(r.getD 3 default).str.size≤8∧(r.getD 9 default).rows.length+(r.getD 10 default).rows.length=0:=by
 obtain ⟨k,n,t,s,v,rfl,h1,h2,h3,h4,h5⟩:=h
 exact ⟨h4,rfl⟩
theorem OpD.sm {r:List D} (h:OpD r):SmO r:=by
 obtain ⟨x,rfl,h0,h1,h2,h3,⟨e0,e1,e2,c1,c2,c3,c4,c5⟩,h5,h6,h7,h8,h9⟩:=h
 refine ⟨jdd h3.1 (by decide),jdd h9.1 (by decide),⟨jdd c3 (by decide),jdd c4 (by decide),jdd h5 (by decide),jdd h6 (by decide)⟩,fun i hi=>?_⟩
 have:=(ef h9.2 hi).txt
 exact ⟨jdd this.1 (by decide),by show ((x.rd.getD i []).getD 9 default).rows.length+((x.rd.getD i []).getD 10 default).rows.length≤_;omega⟩
theorem OpD.text {r:List D} (h:OpD r):(aJ r).size≤90000:=by
 unfold aJ
 split
 · rename_i hg
   obtain ⟨x,rfl,h0,h1,h2,h3,⟨e0,e1,e2,c1,c2,c3,c4,c5⟩,h5,h6,h7,h8,h9⟩:=h
   refine jdd (vM (M:=1401) (by decide) (jdd h9.1 (by decide)) (fun j hj=>?_) (fun i hi=>?_) hg) ?_
   · rcases hj with rfl|rfl|rfl|rfl
     · show 2 * x.e.c.nm.size+1≤_;omega
     · show 2 * x.e.c.cd.size+1≤_;omega
     · show 2 * x.fr.size+1≤_;omega
     · show 2 * x.tt.size+1≤_;omega
   · have:=(ef h9.2 hi).txt.1
     show 2 * ((x.rd.getD i []).getD 3 default).str.size+1≤_
     omega
   · show (x.sn.length+16+5 * x.rd.length) * (1401+1)≤90000
     have a1:=h3.1
     have a2:=h9.1
     omega
 · exact jc7 _
theorem OpD.rec {r:List D} (h:OpD r):(recT (aJ r)).size≤90012:=jdd l7 (by have:=h.text;omega)
theorem pQ {r:List D} (h:OpD r):(recT (aJ (csD (rowC cO r)))).size≤90012:=by rw [aw h.wf];exact h.rec
theorem yo {d:ByteArray} {n:Int} (hd:d.size≤900200) (hn:inK .i64 n):WfRow T [.s,.i .i64] [.s d,.i n]:=by
 refine ⟨rfl,fun j ct x hc hx=>?_⟩
 match j with
 | 0=>cases hc;cases hx;exact .str _ (jdd hd (by decide))
 | 1=>cases hc;cases hx;exact .int _ _ hn
 | j+2=>simp at hc
theorem jan {t d:ByteArray} {n:Int}:(wrD t d n).size≤d.size+t.size:=by
 unfold wrD
 split
 · rw [jdr];omega
 · omega
theorem wr90 {t d:ByteArray} {n:Int} {i:Nat} (hd:d.size≤90012 * i) (ht:t.size≤90012):(wrD t d n).size≤90012 * (i+1):=jdd jan (by omega)
theorem su {n:Nat} (h:n≤1048576):inK .i64 (n:Int):=wfI (by omega)
theorem ok19:FOk Tryz.prog T 19 (vo T [.s,.i .i64]):=by
 refine fok (env:=envL [(37,spIn)]) (N:=9) tabT (aa ok37 ae) mixed Tryz.func19 rfl Tryz.call19 Tryz.ntmps19 ?_
 rintro args ⟨a,wa,rfl⟩ hwf
 refine ⟨by simp,?_⟩
 clear hwf
 rw [Tryz.results19]
 repeat' first
  | refine And.intro ?_ ?_
  | (intro h;cases h)
  | (intro h;rw [h])
  | intro h
 all_goals first
  | exact True.intro
  | exact Or.inr rfl
  | exact ⟨_,_,_,rfl⟩
  | rfl
theorem ok17:FOk Tryz.prog T 17 (vo T [.s,.i .i64]):=by
 refine fok (env:=envL [(33,spIn)]) (N:=9) tabT (aa ok33 ae) mixed Tryz.func17 rfl Tryz.call17 Tryz.ntmps17 ?_
 rintro args ⟨a,wa,rfl⟩ hwf
 refine ⟨by simp,?_⟩
 clear hwf
 rw [Tryz.results17]
 repeat' first
  | refine And.intro ?_ ?_
  | (intro h;cases h)
  | (intro h;rw [h])
  | intro h
 all_goals first
  | exact True.intro
  | exact Or.inr rfl
  | exact ⟨_,_,_,rfl⟩
  | rfl
theorem ok26:FOk Tryz.prog T 26 (vp T [.s,.i .i64]):=by
 refine fok (env:=envL []) (N:=8) tabT ae mixed Tryz.func26 rfl Tryz.call26 Tryz.ntmps26 ?_
 rintro args ⟨a,wa,rfl⟩ hwf
 refine ⟨by simp,?_⟩
 clear hwf
 rw [Tryz.results26]
 repeat' first
  | refine And.intro ?_ ?_
  | (intro h;cases h)
  | (intro h;rw [h])
  | intro h
 all_goals first
  | exact True.intro
  | exact Or.inr rfl
  | rfl
theorem ok10:FOk Tryz.prog T 10 (vp T [.s,.i .i64]):=by
 refine fok (env:=envL []) (N:=9) tabT ae mixed Tryz.func10 rfl Tryz.call10 Tryz.ntmps10 ?_
 rintro args ⟨a,wa,rfl⟩ hwf
 refine ⟨by simp,?_⟩
 clear hwf
 rw [Tryz.results10]
 repeat' first
  | refine And.intro ?_ ?_
  | (intro h;cases h)
  | (intro h;rw [h])
  | intro h
 all_goals first
  | exact True.intro
  | exact Or.inr rfl
  | rfl
theorem ok7 (g:List D→ByteArray) (hz:∀ a,SmO a→(g a).size≤140737488355340) (hg:FOk Tryz.prog T 18 (spTx T cO SmO g)):FOk Tryz.prog T 7 (spWr T [.s,.i .i64] cO SmO g):=by
 refine fok (env:=envL [(18,(spTx T cO SmO g)),(19,(vo T [.s,.i .i64]))]) (N:=23) tabT (aa hg (aa ok19 ae)) mixed Tryz.func7 rfl Tryz.call7 Tryz.ntmps7 ?_
 rintro args ⟨s,a,ws,wa,sm,hd,rfl⟩ hwf
 have ec:csD (rowC cO a)=a:=aw wa
 have hsz' : (g (csD (rowC cO a))).size≤140737488355340:=by rw [ec];exact hz a sm
 refine ⟨by simp,?_⟩
 clear hwf
 rw [Tryz.results7]
 repeat' first
  | refine And.intro ?_ ?_
  | (intro h;cases h)
  | (intro h;rw [h])
  | intro h
 all_goals first
  | exact True.intro
  | exact Or.inr rfl
  | exact ⟨_,wa,sm,rfl⟩
  | exact ⟨_,ws,rfl⟩
  | exact jam hd hsz'
  | exact pP (t:=g (csD (rowC cO a))) h
  | exact mZ (t:=g (csD (rowC cO a))) h
  | (rename_i h1;exact pO (t:=g (csD (rowC cO a))) h1 h)
theorem ok6 (g:List D→ByteArray) (hz:∀ a,SmO a→(g a).size≤140737488355340) (hg:FOk Tryz.prog T 16 (spTx T cO SmO g)):FOk Tryz.prog T 6 (spWr T [.s,.i .i64] cO SmO g):=by
 refine fok (env:=envL [(16,(spTx T cO SmO g)),(17,(vo T [.s,.i .i64]))]) (N:=24) tabT (aa hg (aa ok17 ae)) mixed Tryz.func6 rfl Tryz.call6 Tryz.ntmps6 ?_
 rintro args ⟨s,a,ws,wa,sm,hd,rfl⟩ hwf
 have ec:csD (rowC cO a)=a:=aw wa
 have hsz' : (g (csD (rowC cO a))).size≤140737488355340:=by rw [ec];exact hz a sm
 refine ⟨by simp,?_⟩
 clear hwf
 rw [Tryz.results6]
 repeat' first
  | refine And.intro ?_ ?_
  | (intro h;cases h)
  | (intro h;rw [h])
  | intro h
 all_goals first
  | exact True.intro
  | exact Or.inr rfl
  | exact ⟨_,wa,sm,rfl⟩
  | exact ⟨_,ws,rfl⟩
  | exact jam hd hsz'
  | exact pP (t:=g (csD (rowC cO a))) h
  | exact mZ (t:=g (csD (rowC cO a))) h
  | (rename_i h1;exact pO (t:=g (csD (rowC cO a))) h1 h)
end Go.Proofs.YtdkofgjbbdbglaaGreatDoor.Ab
namespace Go.Proofs.YtdkofgjbbdbglaaGreatDoor
open Go.ChangeShapes Go.WideShapes Go.ChangeAt Go.RowKit
set_option linter.all false
def pq (w:World) (B:Nat) (A:Option Addr) (n:Nat) (l:List UInt8):Prop :=
 l.length=n∧(0 < n→∃ ad:Addr,A=some ad∧ad.spot=none∧ad.block < B∧∀ k (h:k < l.length),w.cell? (ad.add k)=some (.int .u8 (l[k].toNat:Int)))
theorem uM (a:Int):0≤bits .and .i64 a 1073741823∧bits .and .i64 a 1073741823≤1073741823:=by
 have h:(BitVec.ofInt 64 a &&& BitVec.ofInt 64 1073741823).toNat≤1073741823:=by
  rw [BitVec.toNat_and]
  exact jdd Nat.and_le_right (by decide)
 show 0≤IntKind.i64.wrap ((BitVec.ofInt 64 a &&& BitVec.ofInt 64 1073741823).toNat:Int)∧IntKind.i64.wrap ((BitVec.ofInt 64 a &&& BitVec.ofInt 64 1073741823).toNat:Int)≤1073741823
 rw [aF (by omega) (by omega)]
 omega
def zM (x:Int) (b:UInt8):Int:=bits .and .i64 (x * 131+(b.toNat:Int)+7) 1073741823
def hTo (l:List UInt8) (k:Nat):Int:=(l.take k).foldl zM (26583+(l.length:Int))
theorem qe {l:List UInt8} {k:Nat} (h:k < l.length):hTo l (k+1)=zM (hTo l k) l[k]:=by
 unfold hTo
 rw [jd5,jc5 h,List.foldl_append]
 rfl
theorem xN (l:List UInt8) (hl:l.length≤1048576):∀ k,k≤l.length→0≤hTo l k∧hTo l k≤1100000000
 | 0,_=>by
   show 0≤(26583+(l.length:Int))∧(26583+(l.length:Int))≤1100000000
   omega
 | k+1,hk=>by
   rw [qe (by omega)]
   have:=uM (hTo l k * 131+(l[k].toNat:Int)+7)
   unfold zM
   omega
def hOf (l:List UInt8):Int:=hTo l 4000
theorem zL {l:List UInt8} {k:Nat} (h4:k≤4000) (hk:k≤l.length) (h:k=l.length∨¬ (k:Int) < 4000):hTo l k=hOf l:=by
 unfold hOf
 rcases h with h|h
 · unfold hTo
   rw [jdJ (show l.length≤k by omega),jdJ (show l.length≤4000 by omega)]
 · rw [show k=4000 by omega]
set_option maxRecDepth 100000 in
theorem tq (A:Option Addr) (n c:Nat) (l:List UInt8) (w:World) (hn:n≤1048576) (hb:pq w w.heap.size A n l) :
 Calls Tryz.prog 13 #[.slice A n c] w fun e w' => e=.returned (.pointer (some ⟨w.heap.size,0,none⟩))∧w' = w.alloc (.cells #[.slice A n c,.int .i64 0,.int .i64 (hOf l)] 55):=by
 obtain ⟨hl,hc⟩:=hb
 have HIN:=Lib.hid (xN l (by omega))
 have HEND:=Lib.hid (fun k a b d=>@zL l k a b d)
 have HNX:=Lib.hid (fun k h=>@qe l k h)
 have HL:=Lib.hid hl
 have HC:=Lib.hid hc
 have h00:hTo l 0=26583+(n:Int):=by rw [← hl];rfl
 have H00:=Lib.hid h00
 clear hl hc h00
 go_enter Tryz.func13,Tryz.ntmps13
 go_wp2_with fail
 go_loop [3,4] (fun h i=>∃ (k:Nat) (x:Int),k≤n∧k≤4000∧i=.int .i64 k∧h=.int .i64 x∧x=hTo l k∧0≤x∧x≤1100000000) (fun _ i=>n - (intOf i).toNat)
 case atStart=>exact ⟨0,_,jc7 _,jc7 _,rfl,rfl,by rw [H00.out],by omega,by omega⟩
 case round =>
  obtain ⟨k,x,hk,hk4,rfl,rfl,hx,hx0,hx1⟩:=hrel
  have HX:=Lib.hid hx
  clear hx
  by_cases hlt:k < n
  · by_cases h4:(k:Int) < 4000
    · obtain ⟨ad,rfl,hs,hbk,hcell⟩:=HC.out (by omega)
      obtain ⟨b,off,spot⟩:=ad
      have hs' : spot=none:=hs
      subst hs'
      have hkl:k < l.length:=by rw [HL.out];exact hlt
      have hcx:=hcell k hkl
      have HK:=Lib.hid hkl
      have hnx:hTo l (k+1)=bits .and .i64 (x * 131+((l[k]'hkl).toNat:Int)+7) 1073741823:=by rw [HNX.out k hkl, ← HX.out];rfl
      have HNX2:=Lib.hid hnx
      have ha:(⟨b,off,none⟩:Addr).add k=⟨b,off+k,none⟩:=by unfold Addr.add;split <;> simp_all
      rw [ha] at hcx
      have hv:=(l[k]'hkl).toNat_lt
      clear hnx
      generalize (l[k]'hkl).toNat=v at *
      have hm:=uM (x * 131+(v:Int)+7)
      clear hcell ha hs HC hkl
      have HM:=Lib.hid hm
      clear hm
      go_wp2
      all_goals go_round
      all_goals
       first
       | (case rel=>exact ⟨k+1,_,by omega,by omega,by go_num,rfl,by rw [HNX2.out],by have:=HM.out;omega,by have:=HM.out;omega⟩)
       | skip
      all_goals simp [intOf];omega
    · have he:=HX.out.trans (HEND.out k hk4 (by have:=HL.out;omega) (.inr (by omega)))
      have HE:=Lib.hid he
      clear he
      go_wp2
      go_ret
      exact ⟨rfl,by rw [HE.out]⟩
  · have he:=HX.out.trans (HEND.out k hk4 (by have:=HL.out;omega) (.inl (by have:=HL.out;omega)))
    have HE:=Lib.hid he
    clear he
    go_wp2
    go_ret
    exact ⟨rfl,by rw [HE.out]⟩
end Go.Proofs.YtdkofgjbbdbglaaGreatDoor
namespace Go.Proofs.YtdkofgjbbdbglaaGreatDoor.Ab
noncomputable section
open Go.RowKit
set_option linter.all false
def cr (rows:List (List D)):List UInt8:=rows.map fun r=>UInt8.ofNat (r.getD 0 default).int.toNat
def r8 (e:TypeId):FSpec where
 pre args:=∃ rows:List (List D),rows.length≤1048576∧args=[argS e rows]
 res _:=.none
 bx:=true
 nb:=true
 upd args:=match args with
  | [.val _ [.sl _ _ rows]]=>curC e rows 0 (hOf (cr rows))
  | _=>[]
theorem RdR.int_u {T:Tab} {w:World} {X:Nat→Prop} {k:IntKind} {v:Value} {d:D} (h:RdR T w X (.i k) v d):v=.int k d.int:=by cases h;rfl
theorem ArgsR.one_u {T:Tab} {w:World} {X:Nat→Prop} {vals:List Value} {c:CV} (h:ArgsR T w X vals [.val false [c]]):∃ v,vals=[v]∧ArgC T w X v c:=by
 obtain ⟨h1,h2⟩:=h
 match vals,h1 with
 | [v],_ =>
   obtain ⟨c',e,hc⟩:=h2 0 _ v rfl rfl
   obtain rfl:c=c' := by simpa using e
   exact ⟨v,rfl,hc⟩
theorem zk {P:Program} {T:Tab} {f:FuncId} {e:TypeId} {te:Ty} {et:TypeId} (hte:T e=some te) (hct:te.cts=[.i .u8]) (hcall:∀ args w,(callFunc f args).run P w=.ok (.enter f args) w)
 (h:∀ (A:Option Addr) (n c:Nat) (l:List UInt8) (w:World) (hn:n≤1048576) (hb:pq w w.heap.size A n l),Calls P f #[.slice A n c] w fun e w' => e=.returned (.pointer (some ⟨w.heap.size,0,none⟩))∧w' = w.alloc (.cells #[.slice A n c,.int .i64 0,.int .i64 (hOf l)] et)):FOk P T f (r8 e):=by
 refine ⟨hcall,(fun _ hn=>by cases hn),(fun hb=>by cases hb),fun _ _ w X args vals hX hargs hpre=>?_⟩
 obtain ⟨rows,hr,rfl⟩:=hpre
 obtain ⟨v,rfl,hv⟩:=(show ArgsR T w X vals [.val false [.sl false e rows]] from hargs).one_u
 have hv' : RdR T w X (.l e) v (.l rows):=hv
 have hH:=xN (cr rows) (by unfold cr;rw [jdi];exact hr)
 have key:∃ A n c,v=.slice A n c∧n≤1048576∧pq w w.heap.size A n (cr rows):=by
  clear hv hH
  generalize hd:D.l rows=d at hv'
  generalize hc:CT.l e=ct at hv'
  cases hv' with
  | nil e' A c g =>
    obtain rfl:rows=[]:=by simpa using hd
    exact ⟨A,0,c,rfl,jc7 _,rfl,fun h=>absurd h (Nat.lt_irrefl _)⟩
  | sl e' ty b o c rows' vs g1 g2 g3 g4 g5 g6 g7 g8 =>
    cases hc
    obtain rfl:rows=rows' := by simpa using hd
    rw [hte] at g1
    obtain rfl:=jc9 g1
    refine ⟨_,rows.length,c,rfl,hr,by unfold cr;rw [jdi],fun _=>⟨_,rfl,rfl,g5,fun k hk=>?_⟩⟩
    have hk' : k < rows.length:=by unfold cr at hk;rwa [jdi] at hk
    have:=g6 k 0 hk' (by rw [hct];simp)
    rw [hct] at this
    simp only [jdl,jdu,jdN,jeO,jeJ] at this
    rw [fj,this]
    have hlen:=g7 k rows[k] (jc5 hk')
    rw [hct] at hlen
    obtain ⟨d,hd'⟩:=jeV.1 hlen
    have hr8:=g8 k 0 (.i .u8) d rows[k] (jc5 hk') (by rw [hct];rfl) (by rw [hd'];rfl)
    have hin:∃ m,d=.i m∧inK .u8 m:=by
     have hr9:=hr8
     generalize hct0:CT.i .u8=ct0 at hr9
     generalize vs k 0=u0 at hr9
     cases hr9 with
     | int k' m hm=>cases hct0;exact ⟨m,rfl,hm⟩
     | _=>cases hct0
    obtain ⟨m,rfl,hm⟩:=hin
    rw [hr8.int_u]
    have e0:(cr rows)[k]? = some (UInt8.ofNat m.toNat):=by
     unfold cr
     rw [jdx,jc5 hk',hd']
     rfl
    have e1:(cr rows)[k]'hk=UInt8.ofNat m.toNat:=(jdg.1 e0).2
    rw [e1]
    have h0:IntKind.min .u8=0:=by decide
    have h255:IntKind.max .u8=255:=by decide
    rw [inK,h0,h255] at hm
    show some (Value.int .u8 m)=some (Value.int .u8 ((UInt8.ofNat m.toNat).toNat:Int))
    rw [UInt8.toNat_ofNat',jez (by omega)]
    congr 2
    omega
  | _=>cases hc
 obtain ⟨A,n,c,rfl,hn,hb⟩:=key
 refine (h A n c (cr rows) w hn hb).mono fun e' w' ⟨he,hw⟩=>⟨_,et,he,hw,rfl,fun i cc u h1 h2=>?_⟩
 have h1' : (curC e rows 0 (hOf (cr rows)))[i]? = some cc:=h1
 match i with
 | 0 =>
   obtain rfl:CV.sl false e rows=cc:=by simpa using h1'
   obtain rfl:Value.slice A n c=u:=by simpa using h2
   exact hv'
 | 1 =>
   obtain rfl:CV.i .i64 0=cc:=by simpa using h1'
   obtain rfl:Value.int .i64 0=u:=by simpa using h2
   exact ⟨rfl,by decide,by decide⟩
 | 2 =>
   obtain rfl:CV.i .i64 (hOf (cr rows))=cc:=by simpa using h1'
   obtain rfl:Value.int .i64 (hOf (cr rows))=u:=by simpa using h2
   have hh:0≤hOf (cr rows)∧hOf (cr rows)≤1100000000:=by
    unfold hOf
    rcases Nat.le_total 4000 (cr rows).length with hl|hl
    · exact hH 4000 hl
    · have e:hTo (cr rows) 4000=hTo (cr rows) (cr rows).length:=by
       unfold hTo
       rw [jdJ hl,jdZ]
      rw [e]
      exact hH _ (jdm _)
   have h1:IntKind.i64.min = -9223372036854775808:=by decide
   have h2:IntKind.i64.max=9223372036854775807:=by decide
   refine ⟨rfl,?_⟩
   rw [inK,h1,h2]
   omega
 | k+3=>simp at h1'
theorem ok13:FOk Tryz.prog T 13 (r8 5):=zk rfl rfl Tryz.call13 tq
end
end Go.Proofs.YtdkofgjbbdbglaaGreatDoor.Ab
