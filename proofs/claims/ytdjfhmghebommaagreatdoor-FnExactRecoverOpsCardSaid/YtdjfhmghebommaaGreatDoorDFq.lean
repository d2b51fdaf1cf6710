/- A part. -/
import Derived.Test.YtdjfhmghebommaaGreatDoorDPB
import Derived.Test.YtdjfhmghebommaaGreatDoorDFe
import Derived.Deep.RegionHeld3
import Derived.Deep.AppendLies
namespace Go.Proofs.YtdjfhmghebommaaGreatDoor.Ab
open Go.RowKit
set_option linter.all false
set_option maxRecDepth 100000
set_option maxHeartbeats 1000000
theorem ok69:FOk Tryz.prog T 69 rS:=vR Tryz.call69 xF
theorem ok73:FOk Tryz.prog T 73 rS:=vR Tryz.call73 yA
theorem ok36 (g:List D→ByteArray) (hz:∀ a,SmO a→(g a).size≤140737488355328) (hg:FOk Tryz.prog T 22 (spTx T cO SmO g)):FOk Tryz.prog T 36 (spTx T cO SmO (fun a=>recT (g a))):=by
 refine fok (env:=envL [(22,(spTx T cO SmO g)),(69,rS),(47,c7)]) (N:=15) tabT (ac hg (ac ok69 (ac ok47 af))) mixed Tryz.func36 rfl Tryz.call36 Tryz.ntmps36 ?_
 rintro args ⟨a,wa,sm,rfl⟩ hwf
 have ec:csD (rowC cO a)=a:=au wa
 have hsz' : (g (csD (rowC cO a))).size≤140737488355328:=by rw [ec];exact hz a sm
 refine ⟨by simp,?_⟩
 clear hwf
 rw [Tryz.results36]
 repeat' first
  | refine And.intro ?_ ?_
  | intro h
 all_goals first
  | (show aa _=true;kernel_rfl)|(show am _ _=true;kernel_rfl)|exact True.intro|exact Or.inr rfl
  | exact ⟨_,wa,sm,rfl⟩
  | exact ⟨_,hsz',rfl⟩
  | exact ⟨_,rfl⟩
  | exact resS (sJ (t:=g (csD (rowC cO a))) (pB h)).symm
  | exact rec1 hsz'
  | exact rec2 hsz'
  | exact rec3 hsz'
  | exact resS (pQ (t:=g (csD (rowC cO a))) (gt h)).symm
theorem ok39 (g:List D→ByteArray) (hz:∀ a,SmO a→(g a).size≤140737488355328) (hg:FOk Tryz.prog T 27 (spTx T cO SmO g)):FOk Tryz.prog T 39 (spTx T cO SmO (fun a=>recT (g a))):=by
 refine fok (env:=envL [(27,(spTx T cO SmO g)),(73,rS),(72,c7)]) (N:=15) tabT (ac hg (ac ok73 (ac ok72 af))) mixed Tryz.func39 rfl Tryz.call39 Tryz.ntmps39 ?_
 rintro args ⟨a,wa,sm,rfl⟩ hwf
 have ec:csD (rowC cO a)=a:=au wa
 have hsz' : (g (csD (rowC cO a))).size≤140737488355328:=by rw [ec];exact hz a sm
 refine ⟨by simp,?_⟩
 clear hwf
 rw [Tryz.results39]
 repeat' first
  | refine And.intro ?_ ?_
  | intro h
 all_goals first
  | (show aa _=true;kernel_rfl)|(show am _ _=true;kernel_rfl)|exact True.intro|exact Or.inr rfl
  | exact ⟨_,wa,sm,rfl⟩
  | exact ⟨_,hsz',rfl⟩
  | exact ⟨_,rfl⟩
  | exact resS (sJ (t:=g (csD (rowC cO a))) (pB h)).symm
  | exact rec1 hsz'
  | exact rec2 hsz'
  | exact rec3 hsz'
  | exact resS (pQ (t:=g (csD (rowC cO a))) (gt h)).symm
end Go.Proofs.YtdjfhmghebommaaGreatDoor.Ab
namespace Go.Proofs.YtdjfhmghebommaaGreatDoor
open Go.ChangeShapes Go.WideShapes Go.ChangeAt Go.RowKit
set_option maxRecDepth 200000
def dB (l:List UInt8):List Value:=l.map fun b=>Value.int .u8 (b.toNat:Int)
theorem tE:(Tryz.prog.info? 5).map (fun i=>(i.zero,i.size,i.bytes))=some (some (.int .u8 0),1,1):=by kernel_rfl
theorem vQ (i:Int) (h0:0≤i) (h1:i < 16) (h:i.toNat < ({ data:=#[48,49,50,51,52,53,54,55,56,57,97,98,99,100,101,102] }:ByteArray).size) :
 (({ data:=#[48,49,50,51,52,53,54,55,56,57,97,98,99,100,101,102] }:ByteArray)[i.toNat]'h).toNat=(Lib.Hx.digit i.toNat).toNat:=by
 rcases (by omega:i=0∨i=1∨i=2∨i=3∨i=4∨i=5∨i=6∨i=7∨i=8∨i=9∨i=10∨i=11∨i=12∨i=13∨i=14∨i=15) with rfl|rfl|rfl|rfl|rfl|rfl|rfl|rfl|rfl|rfl|rfl|rfl|rfl|rfl|rfl|rfl <;> rfl
theorem vv (s:ByteArray) (k:Nat) (h:k < s.size):dB (Lib.Hx.encode (s.data.toList.take k))++[.int .u8 ((Lib.Hx.digit ((s[k].toNat:Int) / 16).toNat).toNat:Int),.int .u8 ((Lib.Hx.digit ((s[k].toNat:Int) % 16).toNat).toNat:Int)]=dB (Lib.Hx.encode (s.data.toList.take (k+1))):=by
 have e:s.data.toList.take (k+1)=s.data.toList.take k++[s[k]]:=by
  rw [jc8 (by simpa using h)];rfl
 rw [e]
 unfold dB Lib.Hx.encode
 rw [List.flatMap_append,jc5]
 congr 1
theorem wy {w:World} {base size n:Nat} {e:TypeId} {v:Value} {xs:List Value} (h:w.ownsRow base e size v n xs):∀ k,v.ownBlock=some k→base≤k:=by
 intro k hk
 rcases h.2 with ⟨rfl,_⟩|⟨g,cap,cur,rfl,hb,_⟩
 · simp [Value.ownBlock] at hk
 · simp [Value.ownBlock] at hk;omega
theorem vw (s:ByteArray) (w:World) (base g cap:Nat) (h:w.ownsRow base 5 1 (.slice (some ⟨g,0,none⟩) (2 * s.size) cap) (2 * s.size) (dB (Lib.Hx.encode s.data.toList))) :
 (convert 86 9 (.slice (some ⟨g,0,none⟩) (2 * s.size) cap)).run Tryz.prog w=.ok (.string ⟨(Lib.Hx.encode s.data.toList).toArray⟩) w:=by
 have hl:(Lib.Hx.encode s.data.toList).length=2 * s.size:=by rw [Lib.Hx.encode_length];simp
 have:=run_convert_bytes_back (P:=Tryz.prog) w 86 9 5 ⟨g,0,none⟩ cap (Lib.Hx.encode s.data.toList) Tryz.underlying86 Tryz.underlying5 Tryz.underlying9 (fun j hj=>by
  have ha:(⟨g,0,none⟩:Addr).add j=⟨g,j,none⟩:=by unfold Addr.add;split <;> simp_all
  rw [ha,h.cellAt j (by omega)]
  simp [dB,hj])
 rwa [hl] at this
set_option maxHeartbeats 1000000 in
theorem mP (s:ByteArray) (w:World) (hs:s.size≤1048576) (hne:s.toList.isEmpty=false) :
 Calls Tryz.prog 48 #[.string s] w fun e w' => e=.returned (.string ⟨(Lib.Hx.encode s.data.toList).toArray⟩)∧Below w.heap.size w w' := by
 obtain ⟨i0,hi,hz0,hz1,hz2⟩:=info_parts tE
 go_enter Tryz.func48,Tryz.ntmps48
 go_wp2_with fail
 go_loopw [4,5] (fun v i wr=>∃ k g cap:Nat,k≤s.size∧i=.int .i64 k∧v=.slice (some ⟨g,0,none⟩) (2 * k) cap∧wr.ownsRow w.heap.size 5 1 (.slice (some ⟨g,0,none⟩) (2 * k) cap) (2 * k) (dB (Lib.Hx.encode (s.data.toList.take k)))∧Below w.heap.size w wr) (fun _ i _=>s.size - (intOf i).toNat)
 case atStart=>exact ⟨0,_,_,jbP _,rfl,rfl,⟨rfl,.inr ⟨_,0, #[],rfl,jb4 _,heap_alloc_new w _,jb4 _,by simp [maxLen],rfl,rfl⟩⟩,dj _ _⟩
 case round =>
  obtain ⟨k,g,cap,hk,rfl,rfl,hown,hbel⟩:=hrel
  by_cases hlt:k < s.size
  · have hbl:=s[k].toNat_lt
    have q0:(0:Int)≤(k:Int):=by omega
    have q1:(k:Int) < (s.size:Int):=by omega
    have q2:(0:Int)≤(s[k].toNat:Int) / 16:=by omega
    have q3:(s[k].toNat:Int) / 16 < 16:=by omega
    have q4:(0:Int)≤(s[k].toNat:Int) % 16:=by omega
    have q5:(s[k].toNat:Int) % 16 < 16:=by omega
    have q6:IntKind.i64.wrap ((s[k].toNat:Int))=(s[k].toNat:Int):=IntWalk.i64_in _ (by omega)
    have q7:((s[k].toNat:Int)).tdiv 16=(s[k].toNat:Int) / 16:=Int.tdiv_eq_ediv_of_nonneg (by omega)
    have q8:((s[k].toNat:Int)).tmod 16=(s[k].toNat:Int) % 16:=jdm (by omega)
    have q9:IntKind.i64.wrap ((s[k].toNat:Int) / 16)=(s[k].toNat:Int) / 16:=IntWalk.i64_in _ (by omega)
    have q10:IntKind.i64.wrap ((s[k].toNat:Int) % 16)=(s[k].toNat:Int) % 16:=IntWalk.i64_in _ (by omega)
    have q11:=vQ _ q2 q3 (by show _ < 16;omega)
    have q12:=vQ _ q4 q5 (by show _ < 16;omega)
    have hsz:=hbel.size
    have HE:=Lib.hid (vv s k hlt)
    go_wp2_with fail
    go_region_held3 (fun _=>True) (trivial) ((refine step_append_lies _ (by rfl) _ _ _ (by rfl) w.heap.size 5 i0 _ 1 1 Tryz.underlying86 hi hz0 hz1 hz2 rfl (by omega) (.slice (some ⟨g,0,none⟩) (2 * k) cap) (2 * k) (dB (Lib.Hx.encode (s.data.toList.take k))) (by rfl) ((hown.alloc _).drew) ⟨wr.heap.size,0,none⟩ 2 2 [(.int .u8 ((Lib.Hx.digit ((s[k].toNat:Int) / 16).toNat).toNat:Int)),(.int .u8 ((Lib.Hx.digit ((s[k].toNat:Int) % 16).toNat).toNat:Int))] (by rfl) (by rfl) (World.news_of_block (cs:=#[(.int .u8 ((Lib.Hx.digit ((s[k].toNat:Int) / 16).toNat).toNat:Int)),(.int .u8 ((Lib.Hx.digit ((s[k].toNat:Int) % 16).toNat).toNat:Int))]) (t:=5) (fr:=(0,0)) (heap_alloc_new wr _)) (by simp [Value.oneCell']) (by omega) (by unfold maxLen;omega) (by omega) (by simp;omega) (wr.heap.size+1) (by simp) ?_;intro gg cap' w1 hown1 hgrow hat hlt1))
    clear q2 q3 q4 q5 q6 q7 q8 q9 q10 q11 q12
    go_wp2
    all_goals
     go_roundw
     · exact ⟨k+1,gg,cap',by omega,by go_num,rfl,by have h:=hown1;rw [HE.out] at h;exact h,((hbel.alloc hsz _).drew).grown hgrow (by simp;omega) (wy hown)⟩
     · simp [intOf];omega
  · obtain rfl:k=s.size:=by omega
    rw [show s.data.toList.take s.size=s.data.toList from jcr (by simp)] at hown
    have hc:=vw s wr _ _ _ hown
    clear hown
    go_wp2
    go_ret
    exact ⟨rfl,hbel⟩
theorem gv (s:ByteArray) (w:World) (hne:s.toList.isEmpty=true) :
 Calls Tryz.prog 48 #[.string s] w fun e w' => e=.returned (.string ⟨#[45]⟩)∧Below w.heap.size w w' := by
 go_enter Tryz.func48,Tryz.ntmps48
 go_wp2
 go_ret
 exact ⟨rfl,Below.refl _ _⟩
theorem mi (s:ByteArray) (w:World) (hne:s.toList.isEmpty=true) :
 Calls Tryz.prog 94 #[.string s] w fun e w' => e=.returned (.string ⟨#[45]⟩)∧Below w.heap.size w w' := by
 go_enter Tryz.func94,Tryz.ntmps94
 go_wp2
 go_ret
 exact ⟨rfl,Below.refl _ _⟩
theorem fg (w:World) (e:TypeId) (s:ByteArray):Below w.heap.size w (Lib.bytesWorld w e s) :=
 ⟨rfl,rfl,rfl,by rw [Lib.bytesWorld_size];omega,fun k hk=>Lib.bytesWorld_at_old w e s k hk⟩
theorem nq (s:ByteArray) (w:World) (hs:s.size≤1048576) (hne:s.toList.isEmpty=false) :
 Calls Tryz.prog 94 #[.string s] w fun e w' => e=.returned (.string ⟨(Lib.Hx.encode s.data.toList).toArray⟩)∧Below w.heap.size w w' := by
 have hc:=Lib.run_convert_string_bytes (P:=Tryz.prog) w 9 86 5 s Tryz.underlying9 Tryz.underlying86 Tryz.underlying5
 have hx:=Tryz.hex_EncodeToString_bytes w.heap.size 0 (grownCap w s.size 0 5) s.data.toList (Lib.bytesWorld w 5 s)
  (fun i h=>by rw [jcv,Lib.bytesWorld_cell w _ s i (by simpa using h)];simp [List.getD,jbN h])
  (by rw [Lib.bytesWorld_size];omega) (by simp;omega)
 rw [show s.data.toList.length=s.size from by simp] at hx
 have hb0:=fg w 5 s
 have HX:=Lib.hid hx
 clear hx
 generalize Lib.bytesWorld w 5 s=W1 at *
 go_enter Tryz.func94,Tryz.ntmps94
 go_wp2_with fail
 refine HX.out.mono ?_;rintro e w1 ⟨rfl,hb1⟩
 go_wp2
 go_ret
 exact ⟨rfl,qA hb0 hb1⟩
theorem uf (c:UInt8) (w:World):Calls Tryz.prog 75 #[.int .u8 (c.toNat:Int)] w fun e w' => e=.returned (.int .i64 (dg c:Int))∧w=w' := by
 have hc:=c.toNat_lt
 rcases (by omega:(48≤c.toNat∧c.toNat≤57)∨(97≤c.toNat∧c.toNat≤102)∨(c.toNat < 48∨(57 < c.toNat∧c.toNat < 97)∨102 < c.toNat)) with ⟨h1,h2⟩|⟨h1,h2⟩|h
 · have hv:(dg c:Int)=(c.toNat:Int) - 48:=by unfold dg;rw [if_pos ⟨h1,h2⟩];omega
   have HV:=Lib.hid hv
   clear hv
   have h1' : (48:Int)≤(c.toNat:Int):=by omega
   have h2' : (c.toNat:Int)≤57:=by omega
   go_enter Tryz.func75,Tryz.ntmps75
   go_wp2
   go_ret
   exact ⟨by rw [HV.out];rfl,rfl⟩
 · have hv:(dg c:Int)=(c.toNat:Int) - 97+10:=by unfold dg;rw [if_neg (by omega),if_pos ⟨h1,h2⟩];omega
   have HV:=Lib.hid hv
   clear hv
   have h1' : (97:Int)≤(c.toNat:Int):=by omega
   have h2' : (c.toNat:Int)≤102:=by omega
   go_enter Tryz.func75,Tryz.ntmps75
   go_wp2
   go_ret
   exact ⟨by rw [HV.out];rfl,rfl⟩
 · have hv:(dg c:Int)=0:=by unfold dg;rw [if_neg (by omega),if_neg (by omega)];rfl
   have HV:=Lib.hid hv
   clear hv
   rcases h with h|⟨h,h'⟩|h
   all_goals
    go_enter Tryz.func75,Tryz.ntmps75
    go_wp2
    go_ret
    exact ⟨by rw [HV.out];rfl,rfl⟩
theorem rN (s:ByteArray) (w:World) (hs:s.size≤1048576):Calls Tryz.prog 48 #[.string s] w fun e w' => e=.returned (.string ⟨(encS s.data.toList).toArray⟩)∧Below w.heap.size w w' := by
 cases hne:s.toList.isEmpty
 · refine (mP s w hs hne).mono fun e w' h=>⟨?_,h.2⟩
   rw [h.1,encS,if_neg]
   intro h0
   have:s.toList=[]:=by rw [ByteArray.toList_eq];exact h0
   simp [this] at hne
 · refine (gv s w hne).mono fun e w' h=>⟨?_,h.2⟩
   have:s.data.toList=[]:=by rw [← ByteArray.toList_eq];simpa using hne
   rw [h.1,encS,if_pos this]
theorem tG (s:ByteArray) (w:World) (hs:s.size≤1048576):Calls Tryz.prog 94 #[.string s] w fun e w' => e=.returned (.string ⟨(encS s.data.toList).toArray⟩)∧Below w.heap.size w w' := by
 cases hne:s.toList.isEmpty
 · refine (nq s w hs hne).mono fun e w' h=>⟨?_,h.2⟩
   rw [h.1,encS,if_neg]
   intro h0
   have:s.toList=[]:=by rw [ByteArray.toList_eq];exact h0
   simp [this] at hne
 · refine (mi s w hne).mono fun e w' h=>⟨?_,h.2⟩
   have:s.data.toList=[]:=by rw [← ByteArray.toList_eq];simpa using hne
   rw [h.1,encS,if_pos this]
theorem pM (l:List UInt8) (w:World) (base g n cap:Nat) (hn:l.length=n) (h:w.ownsRow base 5 1 (.slice (some ⟨g,0,none⟩) n cap) n (dB l)) :
 (convert 86 9 (.slice (some ⟨g,0,none⟩) n cap)).run Tryz.prog w=.ok (.string ⟨l.toArray⟩) w:=by
 subst hn
 exact run_convert_bytes_back (P:=Tryz.prog) w 86 9 5 ⟨g,0,none⟩ cap l Tryz.underlying86 Tryz.underlying5 Tryz.underlying9 (fun j hj=>by
  have ha:(⟨g,0,none⟩:Addr).add j=⟨g,j,none⟩:=by unfold Addr.add;split <;> simp_all
  rw [ha,h.cellAt j (by omega)]
  simp [dB,hj])
theorem own_below {w w' : World} {base size n:Nat} {e:TypeId} {v:Value} {xs:List Value} (h:w.ownsRow base e size v n xs) (hb:Below w.heap.size w w'):w'.ownsRow base e size v n xs:=by
 refine ⟨h.1,?_⟩
 rcases h.2 with h0|⟨g,cap,cur,hv,hg,hh,r⟩
 · exact .inl h0
 · refine .inr ⟨g,cap,cur,hv,hg,(hb.block g ?_).trans hh,r⟩
   rcases jdK g w.heap.size with h' | h'
   · exact h'
   · rw [Array.getElem?_eq_none h'] at hh;cases hh
theorem s7 (s:ByteArray) (j:Nat) (hj:j % 2=0) (h:j+1 < s.size) :
 dB (bL (s.data.toList.take j))++[(.int .u8 (16 * (dg s[j]:Int)+(dg s[j+1]:Int)))]=dB (bL (s.data.toList.take (j+2))):=by
 have h1:=vz s[j]
 have h2:=vz s[j+1]
 rw [qQ s j hj h]
 unfold dB
 rw [jc5]
 congr 1
 simp only [jcV,List.map_nil,jce,and_true]
 congr 1
 rw [UInt8.toNat_ofNat',jdh (by omega)]
 omega
set_option maxHeartbeats 1000000 in
theorem xG (s:ByteArray) (w:World) (hs:s.size≤1048576) :
 Calls Tryz.prog 42 #[.string s] w fun e w' => e=.returned (.tuple #[.string ⟨(decR s.data.toList).1.toArray⟩,.bool (decR s.data.toList).2])∧Below w.heap.size w w' := by
 obtain ⟨i0,hi,hz0,hz1,hz2⟩:=info_parts tE
 go_enter Tryz.func42,Tryz.ntmps42
 go_wp2_with fail
 go_loopw [4,5] (fun v i wr=>∃ j g cap:Nat,j≤s.size∧j % 2=0∧i=.int .i64 j∧v=.slice (some ⟨g,0,none⟩) (j / 2) cap∧wr.ownsRow w.heap.size 5 1 (.slice (some ⟨g,0,none⟩) (j / 2) cap) (j / 2) (dB (bL (s.data.toList.take j)))∧Below w.heap.size w wr) (fun _ i _=>s.size - (intOf i).toNat)
 case atStart=>exact ⟨0,_,_,jbP _,rfl,rfl,rfl,⟨rfl,.inr ⟨_,0, #[],rfl,jb4 _,heap_alloc_new w _,jb4 _,by simp [maxLen],rfl,rfl⟩⟩,dj _ _⟩
 case round =>
  obtain ⟨j,g,cap,hj,hj2,rfl,rfl,hown,hbel⟩:=hrel
  have HJ:=Lib.hid hj2
  clear hj2
  by_cases hlt:j+1 < s.size
  · have hj1:j < s.size:=by omega
    have d1:=vz (s[j]'hj1)
    have d2:=vz (s[j+1]'hlt)
    have q0:(0:Int)≤(j:Int):=by omega
    have q1:(j:Int) < (s.size:Int):=by omega
    have q2:(0:Int)≤(j:Int)+1:=by omega
    have q3:(j:Int)+1 < (s.size:Int):=by omega
    have q4:IntKind.i64.wrap ((j:Int)+1)=(j:Int)+1:=IntWalk.i64_in _ (by omega)
    have q5:IntKind.i64.wrap (16 * (dg (s[j]'hj1):Int))=16 * (dg (s[j]'hj1):Int):=IntWalk.i64_in _ (by omega)
    have q6:IntKind.i64.wrap (16 * (dg (s[j]'hj1):Int)+(dg (s[j+1]'hlt):Int))=16 * (dg (s[j]'hj1):Int)+(dg (s[j+1]'hlt):Int):=IntWalk.i64_in _ (by omega)
    have q7:IntKind.u8.wrap (16 * (dg (s[j]'hj1):Int)+(dg (s[j+1]'hlt):Int))=16 * (dg (s[j]'hj1):Int)+(dg (s[j+1]'hlt):Int):=IntWalk.u8_in _ (by omega)
    have hsz:=hbel.size
    have HE:=Lib.hid (s7 s j HJ.out hlt)
    go_wp2_with fail
    go_region_held3 (fun _=>True) (trivial) (first|(go_at_call 75;refine (uf _ _).mono ?_;rintro e w' ⟨rfl,rfl⟩)|(refine step_append_lies _ (by rfl) _ _ _ (by rfl) w.heap.size 5 i0 _ 1 1 Tryz.underlying86 hi hz0 hz1 hz2 rfl (by omega) (.slice (some ⟨g,0,none⟩) (j / 2) cap) (j / 2) (dB (bL (s.data.toList.take j))) (by rfl) ((hown.alloc _).drew) ⟨wr.heap.size,0,none⟩ 1 1 [(.int .u8 (16 * (dg (s[j]'hj1):Int)+(dg (s[j+1]'hlt):Int)))] (by rfl) (by rfl) (World.news_of_block (cs:=#[(.int .u8 (16 * (dg (s[j]'hj1):Int)+(dg (s[j+1]'hlt):Int)))]) (t:=5) (fr:=(0,0)) (heap_alloc_new wr _)) (by simp [Value.oneCell']) (by omega) (by unfold maxLen;omega) (by omega) (by simp;omega) (wr.heap.size+1) (by simp) ?_;intro gg cap' w1 hown1 hgrow hat hlt1))
    clear q4 q5 q6 q7
    go_wp2
    all_goals
     go_roundw
     · exact ⟨j+2,gg,cap',by omega,by have:=HJ.out;omega,by go_num,by rw [show (j+2) / 2=j / 2+1 by omega],by have h:=hown1;rw [HE.out] at h;rw [show (j+2) / 2=j / 2+1 by omega];exact h,((hbel.alloc hsz _).drew).grown hgrow (by simp;omega) (wy hown)⟩
     · simp [intOf];omega
  · have hl:s.data.toList.length=s.size:=by simp
    rw [s5 s.data.toList j HJ.out (by omega) (by omega)] at hown
    have hpl:(bL s.data.toList).length=j / 2:=by
     have:=HJ.out
     rw [eW,hl];omega
    have hps:(⟨(bL s.data.toList).toArray⟩:ByteArray).size≤1048576:=by
     show (bL s.data.toList).toArray.size≤_
     rw [jcm];omega
    have hpt:(⟨(bL s.data.toList).toArray⟩:ByteArray).data.toList=bL s.data.toList:=rfl
    by_cases hm:s.data.toList=[45]
    · have hs1:s=⟨#[45]⟩:=by
       cases s with
       | mk d=>cases d with|mk l=>simp at hm;subst hm;rfl
      subst hs1
      clear hown hpl hps hpt hl
      have hca:∀ W:World,(convert 86 9 (.slice (some ⟨wr.heap.size,0,none⟩) 0 0)).run Tryz.prog W=.ok (.string ⟨#[]⟩) W:=fun W =>
       run_convert_bytes_back (P:=Tryz.prog) W 86 9 5 ⟨wr.heap.size,0,none⟩ 0 [] Tryz.underlying86 Tryz.underlying5 Tryz.underlying9 (fun j hj=>absurd hj (by simp))
      go_wp2_with fail
      refine (gv _ _ (by rw [ByteArray.toList_eq];rfl)).mono ?_;rintro e w1 ⟨rfl,hb1⟩
      go_wp2
      go_ret2
      exact ⟨rfl,qA (uy hbel _) hb1⟩
    · have hm' : (s.toList == [45])=false:=by rw [ByteArray.toList_eq];simpa using hm
      have hc:=pM _ wr _ _ _ _ hpl hown
      have HO:=Lib.hid hown
      have HPL:=Lib.hid hpl
      clear hown hpl hm
      by_cases he:encS (bL s.data.toList)=s.data.toList
      · have HR:=Lib.hid (show decR s.data.toList=(bL s.data.toList,true) by unfold decR;rw [if_pos he])
        have hq:(encS (bL s.data.toList) == s.toList)=true:=by rw [ByteArray.toList_eq];simpa using he
        clear he
        generalize bL s.data.toList=P at *
        go_wp2_with fail
        refine (rN _ _ hps).mono ?_;rintro e w1 ⟨rfl,hb1⟩
        have hc1:=pM _ w1 _ _ _ _ HPL.out (own_below HO.out hb1)
        go_wp2
        go_ret2
        exact ⟨by rw [HR.out];rfl,qA hbel hb1⟩
      · have HR:=Lib.hid (show decR s.data.toList=([],false) by unfold decR;rw [if_neg he])
        have hq:(encS (bL s.data.toList) == s.toList)=false:=by rw [ByteArray.toList_eq];simpa using he
        clear he
        generalize bL s.data.toList=P at *
        go_wp2_with fail
        refine (rN _ _ hps).mono ?_;rintro e w1 ⟨rfl,hb1⟩
        go_wp2
        go_ret2
        exact ⟨by rw [HR.out];rfl,qA hbel hb1⟩
theorem wO (s:ByteArray) (w:World) (ev:Value) (hE:w.cell? ⟨2,0,none⟩=some ev) (hbig:s.size≤1048576) :
 Calls Tryz.prog 93 #[.string s] w fun e w' => e=.returned (.tuple #[.slice (some ⟨w.heap.size,0,none⟩) (Lib.Hx.decode s.data.toList).1.length (s.size / 2),Lib.Hx.errVal 166 ev (Lib.Hx.decode s.data.toList).2]) ∧
  (∀ W,Below w'.heap.size w' W→(convert 86 9 (.slice (some ⟨w.heap.size,0,none⟩) (Lib.Hx.decode s.data.toList).1.length (s.size / 2))).run Tryz.prog W=.ok (.string ⟨(Lib.Hx.decode s.data.toList).1.toArray⟩) W)∧Below w.heap.size w w' := by
 refine (Tryz.hex_DecodeString s w ev hE (by omega)).mono fun e w' ⟨he,hr,hb⟩=>⟨he,fun W hW=>?_,hb⟩
 refine run_convert_bytes_back (P:=Tryz.prog) W 86 9 5 ⟨w.heap.size,0,none⟩ _ _ Tryz.underlying86 Tryz.underlying5 Tryz.underlying9 (fun j hj=>?_)
 have hl:=Lib.Hx.decode_len s.data.toList
 have hsz:s.data.toList.length=s.size:=by simp
 have ha:(⟨w.heap.size,0,none⟩:Addr).add j=⟨w.heap.size,j,none⟩:=by unfold Addr.add;split <;> simp_all
 have hlt:w.heap.size < w'.heap.size:=by
  obtain ⟨c,hc,_⟩:=hr
  rcases jdK w.heap.size w'.heap.size with h|h
  · exact h
  · rw [Array.getElem?_eq_none h] at hc;cases hc
 rw [ha,hW.cell (p:=⟨w.heap.size,j,none⟩) hlt,hr.cell (by omega)]
 unfold Lib.Hx.rowP
 rw [if_pos (by omega),Nat.sub_zero,jbN hj]
 rfl
theorem ns (w:World):Calls Tryz.prog 53 #[.string ⟨#[45]⟩] w fun e w' => e=.returned (.tuple #[.string ⟨#[]⟩,.bool true])∧Below w.heap.size w w' := by
 go_enter Tryz.func53,Tryz.ntmps53
 go_wp2
 go_ret2
 exact ⟨rfl,Below.refl _ _⟩
theorem oS (s:ByteArray) (w:World) (u:TypeId) (x:Value) (hE:w.cell? ⟨2,0,none⟩=some (.iface u x)) (hs:s.size≤1048576) (hm:¬ s.data.toList=[45]) (ho:isOk (Lib.Hx.decode s.data.toList).2=false) :
 Calls Tryz.prog 53 #[.string s] w fun e w' => e=.returned (.tuple #[.string ⟨#[]⟩,.bool false])∧Below w.heap.size w w' := by
 have hm' : (s.toList == [45])=false:=by rw [ByteArray.toList_eq];simpa using hm
 have hx:=wO s w _ hE hs
 obtain ⟨u',x',hu⟩:∃ u' x',Lib.Hx.errVal 166 (.iface u x) (Lib.Hx.decode s.data.toList).2=.iface u' x' := by
  revert ho
  cases (Lib.Hx.decode s.data.toList).2 with
  | ok=>intro h;cases h
  | bad c=>intro _;exact ⟨_,_,rfl⟩
  | odd=>intro _;exact ⟨_,_,rfl⟩
 rw [hu] at hx
 have HX:=Lib.hid hx
 clear hx hu hE
 go_enter Tryz.func53,Tryz.ntmps53
 go_wp2_with fail
 refine HX.out.mono ?_;rintro e w1 ⟨rfl,_,hb1⟩
 go_wp2
 go_ret2
 exact ⟨rfl,hb1⟩
theorem qY (s:ByteArray) (w:World) (u:TypeId) (x:Value) (hE:w.cell? ⟨2,0,none⟩=some (.iface u x)) (hs:s.size≤1048576) (hm:¬ s.data.toList=[45]) (ho:isOk (Lib.Hx.decode s.data.toList).2=true) :
 Calls Tryz.prog 53 #[.string s] w fun e w' => e=.returned (.tuple #[.string ⟨(decI s.data.toList).1.toArray⟩,.bool (decI s.data.toList).2])∧Below w.heap.size w w' := by
 have hm' : (s.toList == [45])=false:=by rw [ByteArray.toList_eq];simpa using hm
 have hx:=wO s w _ hE hs
 have hu:Lib.Hx.errVal 166 (.iface u x) (Lib.Hx.decode s.data.toList).2=.nilIface:=by
  revert ho
  cases (Lib.Hx.decode s.data.toList).2 with
  | ok=>intro _;rfl
  | bad c=>intro h;cases h
  | odd=>intro h;cases h
 rw [hu] at hx
 have hl:=Lib.Hx.decode_len s.data.toList
 have hsz:s.data.toList.length=s.size:=by simp
 have hps:(⟨(Lib.Hx.decode s.data.toList).1.toArray⟩:ByteArray).size≤1048576:=by
  show (Lib.Hx.decode s.data.toList).1.toArray.size≤_
  rw [jcm];omega
 have hpt:(⟨(Lib.Hx.decode s.data.toList).1.toArray⟩:ByteArray).data.toList=(Lib.Hx.decode s.data.toList).1:=rfl
 have hd:decI s.data.toList=if encS (Lib.Hx.decode s.data.toList).1=s.data.toList then ((Lib.Hx.decode s.data.toList).1,true) else ([],false):=by
  unfold decI
  rw [if_neg hm]
  simp only [ho,true_and]
 generalize (Lib.Hx.decode s.data.toList).1=P at *
 have HX:=Lib.hid hx
 clear hx hu hE hl hsz ho
 by_cases he:encS P=s.data.toList
 · have HR:=Lib.hid (hd.trans (if_pos he))
   have hq:(encS P == s.toList)=true:=by rw [ByteArray.toList_eq];simpa using he
   clear he hm hd
   go_enter Tryz.func53,Tryz.ntmps53
   go_wp2_with fail
   refine HX.out.mono ?_;rintro e w1 ⟨rfl,hcv,hb1⟩
   have HC:=Lib.hid hcv
   have hc1:=hcv w1 (Below.refl _ _)
   clear hcv
   go_wp2_with fail
   refine (tG _ _ hps).mono ?_;rintro e w2 ⟨rfl,hb2⟩
   have hc2:=HC.out w2 hb2
   go_wp2
   go_ret2
   exact ⟨by rw [HR.out];rfl,qA hb1 hb2⟩
 · have HR:=Lib.hid (hd.trans (if_neg he))
   have hq:(encS P == s.toList)=false:=by rw [ByteArray.toList_eq];simpa using he
   clear he hm hd
   go_enter Tryz.func53,Tryz.ntmps53
   go_wp2_with fail
   refine HX.out.mono ?_;rintro e w1 ⟨rfl,hcv,hb1⟩
   have hc1:=hcv w1 (Below.refl _ _)
   clear hcv
   go_wp2_with fail
   refine (tG _ _ hps).mono ?_;rintro e w2 ⟨rfl,hb2⟩
   go_wp2
   go_ret2
   exact ⟨by rw [HR.out];rfl,qA hb1 hb2⟩
theorem yB (s:ByteArray) (w:World) (u:TypeId) (x:Value) (hE:w.cell? ⟨2,0,none⟩=some (.iface u x)) (hs:s.size≤1048576) :
 Calls Tryz.prog 53 #[.string s] w fun e w' => e=.returned (.tuple #[.string ⟨(decR s.data.toList).1.toArray⟩,.bool (decR s.data.toList).2])∧Below w.heap.size w w' := by
 rw [← vB]
 by_cases hm:s.data.toList=[45]
 · have hs1:s=⟨#[45]⟩:=by
    cases s with
    | mk d=>cases d with|mk l=>simp at hm;subst hm;rfl
   subst hs1
   exact ns w
 · cases ho:isOk (Lib.Hx.decode s.data.toList).2
   · have hd:decI s.data.toList=([],false):=by
      unfold decI
      rw [if_neg hm,if_neg (by rw [ho];simp)]
     rw [hd]
     exact oS s w u x hE hs hm ho
   · exact qY s w u x hE hs hm ho
end Go.Proofs.YtdjfhmghebommaaGreatDoor
