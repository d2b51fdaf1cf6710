/- Records of operations: printed by a program of this -/
import Derived.Test.YtkpnfbdoaljkpaaGreatDoorCPB
import Derived.Test.YtkpnfbdoaljkpaaGreatDoorCFe
import Derived.Deep.RegionHeld3
import Derived.Deep.AppendLies
namespace Go.Proofs.YtkpnfbdoaljkpaaGreatDoor.Ab
open Go.RowKit
set_option linter.all false
set_option maxRecDepth 100000
set_option maxHeartbeats 1000000
theorem ok90:FOk Tryz.prog T 90 qI:=uM Tryz.call90 wk
theorem ok88:FOk Tryz.prog T 88 qI:=uM Tryz.call88 xv
theorem ok43 (g:List D→ByteArray) (hz:∀ a,SmO a→(g a).size≤140737488355328) (hg:FOk Tryz.prog T 67 (spTx T cO SmO g)):FOk Tryz.prog T 43 (spTx T cO SmO (fun a=>recT (g a))):=by
 refine fok (env:=envL [(67,(spTx T cO SmO g)),(90,qI),(89,cY)]) (N:=15) tabT (aa hg (aa ok90 (aa ok89 ae))) mixed Tryz.func43 rfl Tryz.call43 Tryz.ntmps43 ?_
 rintro args ⟨a,wa,sm,rfl⟩ hwf
 have ec:csD (rowC cO a)=a:=aC wa
 have hsz' : (g (csD (rowC cO a))).size≤140737488355328:=by rw [ec];exact hz a sm
 refine ⟨by simp,?_⟩
 clear hwf
 rw [Tryz.results43]
 repeat' first
  | (refine And.intro ?_ ?_)
  | (intro h)
 all_goals first
  | (show ac _=true;kernel_rfl)|(show aj _ _=true;kernel_rfl)|exact True.intro|exact Or.inr rfl
  | exact ⟨_,wa,sm,rfl⟩
  | exact ⟨_,hsz',rfl⟩
  | exact ⟨_,rfl⟩
  | exact resS (rf (t:=g (csD (rowC cO a))) (lP h)).symm
  | exact rec1 hsz'
  | exact rec2 hsz'
  | exact rec3 hsz'
  | exact resS (oQ (t:=g (csD (rowC cO a))) (eW h)).symm
theorem ok42 (g:List D→ByteArray) (hz:∀ a,SmO a→(g a).size≤140737488355328) (hg:FOk Tryz.prog T 71 (spTx T cO SmO g)):FOk Tryz.prog T 42 (spTx T cO SmO (fun a=>recT (g a))):=by
 refine fok (env:=envL [(71,(spTx T cO SmO g)),(88,qI),(87,cY)]) (N:=15) tabT (aa hg (aa ok88 (aa ok87 ae))) mixed Tryz.func42 rfl Tryz.call42 Tryz.ntmps42 ?_
 rintro args ⟨a,wa,sm,rfl⟩ hwf
 have ec:csD (rowC cO a)=a:=aC wa
 have hsz' : (g (csD (rowC cO a))).size≤140737488355328:=by rw [ec];exact hz a sm
 refine ⟨by simp,?_⟩
 clear hwf
 rw [Tryz.results42]
 repeat' first
  | (refine And.intro ?_ ?_)
  | (intro h)
 all_goals first
  | (show ac _=true;kernel_rfl)|(show aj _ _=true;kernel_rfl)|exact True.intro|exact Or.inr rfl
  | exact ⟨_,wa,sm,rfl⟩
  | exact ⟨_,hsz',rfl⟩
  | exact ⟨_,rfl⟩
  | exact resS (rf (t:=g (csD (rowC cO a))) (lP h)).symm
  | exact rec1 hsz'
  | exact rec2 hsz'
  | exact rec3 hsz'
  | exact resS (oQ (t:=g (csD (rowC cO a))) (eW h)).symm
end Go.Proofs.YtkpnfbdoaljkpaaGreatDoor.Ab
namespace Go.Proofs.YtkpnfbdoaljkpaaGreatDoor
open Go.ChangeShapes Go.WideShapes Go.ChangeAt Go.RowKit
set_option maxRecDepth 200000
theorem ln (s:ByteArray) (w:World) (hne:s.toList.isEmpty=true) :
 Calls Tryz.prog 171 #[.string s] w fun e w' => e=.returned (.string ⟨#[45]⟩)∧Below w.heap.size w w' := by
 go_enter Tryz.func171,Tryz.ntmps171
 go_wp2
 go_ret
 exact ⟨rfl,Below.refl _ _⟩
theorem eG (w:World) (e:TypeId) (s:ByteArray):Below w.heap.size w (Lib.bytesWorld w e s) :=
 ⟨rfl,rfl,rfl,by rw [Lib.bytesWorld_size];omega,fun k hk=>Lib.bytesWorld_at_old w e s k hk⟩
theorem mx (s:ByteArray) (w:World) (hs:s.size≤1048576) (hne:s.toList.isEmpty=false) :
 Calls Tryz.prog 171 #[.string s] w fun e w' => e=.returned (.string ⟨(Lib.Hx.encode s.data.toList).toArray⟩)∧Below w.heap.size w w' := by
 have hc:=Lib.run_convert_string_bytes (P:=Tryz.prog) w 9 22 5 s Tryz.underlying9 Tryz.underlying22 Tryz.underlying5
 have hx:=Tryz.hex_EncodeToString_bytes w.heap.size 0 (grownCap w s.size 0 5) s.data.toList (Lib.bytesWorld w 5 s)
  (fun i h=>by rw [jbA,Lib.bytesWorld_cell w _ s i (by simpa using h)];simp [List.getD,jaS h])
  (by rw [Lib.bytesWorld_size];omega) (by simp;omega)
 rw [show s.data.toList.length=s.size from by simp] at hx
 have hb0:=eG w 5 s
 have HX:=Lib.hid hx
 clear hx
 generalize Lib.bytesWorld w 5 s=W1 at *
 go_enter Tryz.func171,Tryz.ntmps171
 go_wp2_with fail
 refine HX.out.mono ?_;rintro e w1 ⟨rfl,hb1⟩
 go_wp2
 go_ret
 exact ⟨rfl,ns hb0 hb1⟩
theorem r9 (s:ByteArray) (w:World) (hs:s.size≤1048576):Calls Tryz.prog 171 #[.string s] w fun e w' => e=.returned (.string ⟨(encS s.data.toList).toArray⟩)∧Below w.heap.size w w' := by
 cases hne:s.toList.isEmpty
 · refine (mx s w hs hne).mono fun e w' h=>⟨?_,h.2⟩
   rw [h.1,encS,if_neg]
   intro h0
   have:s.toList=[]:=by rw [ByteArray.toList_eq];exact h0
   simp [this] at hne
 · refine (ln s w hne).mono fun e w' h=>⟨?_,h.2⟩
   have:s.data.toList=[]:=by rw [← ByteArray.toList_eq];simpa using hne
   rw [h.1,encS,if_pos this]
theorem vv (s:ByteArray) (w:World) (ev:Value) (hE:w.cell? ⟨2,0,none⟩=some ev) (hbig:s.size≤1048576) :
 Calls Tryz.prog 170 #[.string s] w fun e w' => e=.returned (.tuple #[.slice (some ⟨w.heap.size,0,none⟩) (Lib.Hx.decode s.data.toList).1.length (s.size / 2),Lib.Hx.errVal 212 ev (Lib.Hx.decode s.data.toList).2]) ∧
  (∀ W,Below w'.heap.size w' W→(convert 22 9 (.slice (some ⟨w.heap.size,0,none⟩) (Lib.Hx.decode s.data.toList).1.length (s.size / 2))).run Tryz.prog W=.ok (.string ⟨(Lib.Hx.decode s.data.toList).1.toArray⟩) W)∧Below w.heap.size w w' := by
 refine (Tryz.hex_DecodeString s w ev hE (by omega)).mono fun e w' ⟨he,hr,hb⟩=>⟨he,fun W hW=>?_,hb⟩
 refine run_convert_bytes_back (P:=Tryz.prog) W 22 9 5 ⟨w.heap.size,0,none⟩ _ _ Tryz.underlying22 Tryz.underlying5 Tryz.underlying9 (fun j hj=>?_)
 have hl:=Lib.Hx.decode_len s.data.toList
 have hsz:s.data.toList.length=s.size:=by simp
 have ha:(⟨w.heap.size,0,none⟩:Addr).add j=⟨w.heap.size,j,none⟩:=by unfold Addr.add;split <;> simp_all
 have hlt:w.heap.size < w'.heap.size:=by
  obtain ⟨c,hc,_⟩:=hr
  rcases jcP w.heap.size w'.heap.size with h|h
  · exact h
  · rw [Array.getElem?_eq_none h] at hc;cases hc
 rw [ha,hW.cell (p:=⟨w.heap.size,j,none⟩) hlt,hr.cell (by omega)]
 unfold Lib.Hx.rowP
 rw [if_pos (by omega),Nat.sub_zero,jaS hj]
 rfl
theorem my (w:World):Calls Tryz.prog 128 #[.string ⟨#[45]⟩] w fun e w' => e=.returned (.tuple #[.string ⟨#[]⟩,.bool true])∧Below w.heap.size w w' := by
 go_enter Tryz.func128,Tryz.ntmps128
 go_wp2
 go_ret2
 exact ⟨rfl,Below.refl _ _⟩
theorem nR (s:ByteArray) (w:World) (u:TypeId) (x:Value) (hE:w.cell? ⟨2,0,none⟩=some (.iface u x)) (hs:s.size≤1048576) (hm:¬ s.data.toList=[45]) (ho:isOk (Lib.Hx.decode s.data.toList).2=false) :
 Calls Tryz.prog 128 #[.string s] w fun e w' => e=.returned (.tuple #[.string ⟨#[]⟩,.bool false])∧Below w.heap.size w w' := by
 have hm' : (s.toList == [45])=false:=by rw [ByteArray.toList_eq];simpa using hm
 have hx:=vv s w _ hE hs
 obtain ⟨u',x',hu⟩:∃ u' x',Lib.Hx.errVal 212 (.iface u x) (Lib.Hx.decode s.data.toList).2=.iface u' x' := by
  revert ho
  cases (Lib.Hx.decode s.data.toList).2 with
  | ok=>intro h;cases h
  | bad c=>intro _;exact ⟨_,_,rfl⟩
  | odd=>intro _;exact ⟨_,_,rfl⟩
 rw [hu] at hx
 have HX:=Lib.hid hx
 clear hx hu hE
 go_enter Tryz.func128,Tryz.ntmps128
 go_wp2_with fail
 refine HX.out.mono ?_;rintro e w1 ⟨rfl,_,hb1⟩
 go_wp2
 go_ret2
 exact ⟨rfl,hb1⟩
theorem pU (s:ByteArray) (w:World) (u:TypeId) (x:Value) (hE:w.cell? ⟨2,0,none⟩=some (.iface u x)) (hs:s.size≤1048576) (hm:¬ s.data.toList=[45]) (ho:isOk (Lib.Hx.decode s.data.toList).2=true) :
 Calls Tryz.prog 128 #[.string s] w fun e w' => e=.returned (.tuple #[.string ⟨(decI s.data.toList).1.toArray⟩,.bool (decI s.data.toList).2])∧Below w.heap.size w w' := by
 have hm' : (s.toList == [45])=false:=by rw [ByteArray.toList_eq];simpa using hm
 have hx:=vv s w _ hE hs
 have hu:Lib.Hx.errVal 212 (.iface u x) (Lib.Hx.decode s.data.toList).2=.nilIface:=by
  revert ho
  cases (Lib.Hx.decode s.data.toList).2 with
  | ok=>intro _;rfl
  | bad c=>intro h;cases h
  | odd=>intro h;cases h
 rw [hu] at hx
 have hl:=Lib.Hx.decode_len s.data.toList
 have hsz:s.data.toList.length=s.size:=by simp
 have hps:(⟨(Lib.Hx.decode s.data.toList).1.toArray⟩:ByteArray).size≤1048576:=by
  show (Lib.Hx.decode s.data.toList).1.toArray.size≤_
  rw [jbr];omega
 have hpt:(⟨(Lib.Hx.decode s.data.toList).1.toArray⟩:ByteArray).data.toList=(Lib.Hx.decode s.data.toList).1:=rfl
 have hd:decI s.data.toList=if encS (Lib.Hx.decode s.data.toList).1=s.data.toList then ((Lib.Hx.decode s.data.toList).1,true) else ([],false):=by
  unfold decI
  rw [if_neg hm]
  simp only [ho,true_and]
 generalize (Lib.Hx.decode s.data.toList).1=P at *
 have HX:=Lib.hid hx
 clear hx hu hE hl hsz ho
 by_cases he:encS P=s.data.toList
 · have HR:=Lib.hid (hd.trans (if_pos he))
   have hq:(encS P == s.toList)=true:=by rw [ByteArray.toList_eq];simpa using he
   clear he hm hd
   go_enter Tryz.func128,Tryz.ntmps128
   go_wp2_with fail
   refine HX.out.mono ?_;rintro e w1 ⟨rfl,hcv,hb1⟩
   have HC:=Lib.hid hcv
   have hc1:=hcv w1 (Below.refl _ _)
   clear hcv
   go_wp2_with fail
   refine (r9 _ _ hps).mono ?_;rintro e w2 ⟨rfl,hb2⟩
   have hc2:=HC.out w2 hb2
   go_wp2
   go_ret2
   exact ⟨by rw [HR.out];rfl,ns hb1 hb2⟩
 · have HR:=Lib.hid (hd.trans (if_neg he))
   have hq:(encS P == s.toList)=false:=by rw [ByteArray.toList_eq];simpa using he
   clear he hm hd
   go_enter Tryz.func128,Tryz.ntmps128
   go_wp2_with fail
   refine HX.out.mono ?_;rintro e w1 ⟨rfl,hcv,hb1⟩
   have hc1:=hcv w1 (Below.refl _ _)
   clear hcv
   go_wp2_with fail
   refine (r9 _ _ hps).mono ?_;rintro e w2 ⟨rfl,hb2⟩
   go_wp2
   go_ret2
   exact ⟨by rw [HR.out];rfl,ns hb1 hb2⟩
theorem xw (s:ByteArray) (w:World) (u:TypeId) (x:Value) (hE:w.cell? ⟨2,0,none⟩=some (.iface u x)) (hs:s.size≤1048576) :
 Calls Tryz.prog 128 #[.string s] w fun e w' => e=.returned (.tuple #[.string ⟨(decR s.data.toList).1.toArray⟩,.bool (decR s.data.toList).2])∧Below w.heap.size w w' := by
 rw [← uj]
 by_cases hm:s.data.toList=[45]
 · have hs1:s=⟨#[45]⟩:=by
    cases s with
    | mk d=>cases d with|mk l=>simp at hm;subst hm;rfl
   subst hs1
   exact my w
 · cases ho:isOk (Lib.Hx.decode s.data.toList).2
   · have hd:decI s.data.toList=([],false):=by
      unfold decI
      rw [if_neg hm,if_neg (by rw [ho];simp)]
     rw [hd]
     exact nR s w u x hE hs hm ho
   · exact pU s w u x hE hs hm ho
end Go.Proofs.YtkpnfbdoaljkpaaGreatDoor
