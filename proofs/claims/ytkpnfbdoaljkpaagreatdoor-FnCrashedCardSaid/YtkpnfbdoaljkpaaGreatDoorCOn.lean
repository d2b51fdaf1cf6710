/- The readers of values, operations and records, with no -/
import Derived.Test.YtkpnfbdoaljkpaaGreatDoorCYy
import Derived.Test.YtkpnfbdoaljkpaaGreatDoorCOd
import Derived.Test.YtkpnfbdoaljkpaaGreatDoorCKc
namespace Go.Proofs.YtkpnfbdoaljkpaaGreatDoor.Ab
open Go.RowKit
set_option linter.all false
set_option maxRecDepth 100000
noncomputable def pvX:ByteArray→List D × Bool:=pvS 1048577
theorem zv (t:ByteArray) (ht:t.size≤1048576):WfRow T cV (pvX t).1∧wRow (pvX t).1≤2097152:=by
 have h0:=qm ht 1048577 0 (jbE _) (ja7 _)
 have h1:=k7 t 1048577 0 (jbE _) (ja7 _)
 unfold pvX pvS pvOf
 split
 · refine ⟨h0,?_⟩
   show wRow (parF t 1048577 0).1≤2097152
   unfold Pos at h1
   omega
 · refine ⟨?_,by decide⟩
   have z:inK .i64 0:=k0 0 (by decide) (by decide)
   have h2:=qm ht 0 0 (jbE _) (ja7 _)
   exact h2
theorem pvX_i:FOk Tryz.prog T 25 (fV cV pvX):=by
 have h:FOk Tryz.prog T 25 (fV cV pvI):=FOk.pv2 (n:=1048577) (ja9 _) (xk25 1048577)
 exact FOk.po_same (fun s _=>(wV (n:=1048577) (by decide) s).symm) h
noncomputable def poX:ByteArray→List D × Bool:=poS pvX
theorem vk:PoOk poX:=zE zv
theorem poX_i:FOk Tryz.prog T 30 (fV cO poX) :=
 FOk.po_same (po' := poI pvX) (fun s hs=>(po_same (zw 1048577) hs).symm) (xo30 pvX zv pvX_i)
noncomputable def rcX:ByteArray→Int→List D × Int:=recS poX
theorem rcX_ok:RcOk rcX:=wT vk
theorem rcX_i:FOk Tryz.prog T 35 (spPR cO rcX) :=
 FOk.rc_same (rc' := recI poX) (fun s k _=>(tN poX s k).symm) (xo35 poX vk poX_i)
theorem pn (s:ByteArray) (i:Nat):byt s i=(s.data.toList.getD i 0).toNat:=by
 unfold byt
 rw [jbX,jaY,jbW]
theorem ur {x y:ByteArray} {i:Nat} (h:i < x.size):byt (x++y) i=byt x i:=by
 have h' : i < x.data.toList.length:=by rw [jba];exact h
 rw [pn,pn]
 have e:(x++y).data.toList=x.data.toList++y.data.toList:=by simp
 rw [e,jaY,jb2 h', ← jaY]
theorem sD {x y:ByteArray} {a b:Nat} (hb:b≤x.size):(x++y).extract a b=x.extract a b:=by
 apply jcf
 apply jcc
 have h' : x.data.toList.length=x.size:=by rw [jba];rfl
 have e:(x++y).data.toList=x.data.toList++y.data.toList:=by simp
 rw [Lib.extract_eq,Lib.extract_eq,e]
 by_cases ha:a≤x.size
 · rw [List.drop_append_of_le_length (by omega),List.take_append_of_le_length (by rw [jby];omega)]
 · rw [show b - a=0 by omega,List.take_zero,List.take_zero]
theorem jar {s:ByteArray} {k p:Nat} (hk:k≤p) (hp:p < s.size) (h10:byt s p=10) (hn:∀ j,k≤j→j < p→byt s j ≠ 10):eolK s k=p:=by
 obtain ⟨a,b,c,d⟩:=eD (s:=s) s.size k (by omega) (by omega)
 have a' : k≤eolK s k:=a
 have b' : eolK s k≤s.size:=b
 rcases jcv (eolK s k) p with h|h|h
 · exact absurd (d (show eolK s k < s.size by omega)) (hn _ a' h)
 · exact h
 · exact absurd h10 (c p hk h)
theorem sp_is {s:ByteArray} {k q p:Nat} (he:eolK s k=p) (hk:k≤q) (hq:q < p) (h32:byt s q=32) (hn:∀ j,q < j→j < p→byt s j ≠ 32):spK s k=q+1:=by
 obtain ⟨a,b,c,d⟩:=iE (s:=s) (k:=k) p (by omega)
 unfold spK
 rw [he]
 rcases jcv (spN s k p) (q+1) with h|h|h
 · exact absurd h32 (c q (by omega) hq)
 · exact h
 · exact absurd (d (by omega)) (hn _ (by omega) (by omega))
theorem re {po:ByteArray→List D × Bool} {d e:ByteArray} {k:Int} (h:(recS po d k).2 ≠ 0):recS po (d++e) k=recS po d k:=by
 unfold recS at h
 split at h
 · rename_i hk
   obtain ⟨n,rfl⟩:=jbU hk.1
   rw [jbf] at h
   have hn:n≤d.size:=by omega
   obtain ⟨a,b,c,dd⟩:=eD (s:=d) d.size n hn (by omega)
   have a' : n≤eolK d n:=a
   have b' : eolK d n≤d.size:=b
   unfold recN at h
   split at h
   · exact absurd rfl h
   · rename_i hno
     have hlt:eolK d n < d.size:=by omega
     have he:eolK (d++e) n=eolK d n:=jar a' (by rw [jbe];omega) (by rw [ur hlt];exact dd hlt) fun j h1 h2=>by rw [ur (by omega)];exact c j h1 h2
     obtain ⟨a2,b2,c2,d2⟩:=iE (s:=d) (k:=n) (eolK d n) a'
     have a2' : n≤spK d n:=a2
     have b2' : spK d n≤eolK d n:=b2
     have hgt:n < spK d n:=by omega
     have hp:spK (d++e) n=spK d n:=by
      have:=sp_is (s:=d++e) (k:=n) (q:=spK d n - 1) he (by omega) (by omega) (by rw [ur (by omega)];exact d2 hgt) (fun j h1 h2=>by rw [ur (by omega)];exact c2 j (by have:spK d n=spN d n (eolK d n):=rfl;omega) h2)
      omega
     rw [rh (n:=n) (by rw [jbe];omega) he hp,rh (n:=n) hn rfl rfl]
     unfold recN
     rw [if_neg (by rw [jbe];omega),if_neg hno,sD (by omega),sD (by omega)]
 · exact absurd rfl h
section
variable {rc:ByteArray→Int→List D × Int}
theorem ro {s:ByteArray}:∀ (m:Nat) (k:Int) (out:List (List D)), ∃ l,(rcF rc s m k out).1=out++l∧l.length≤m
 | 0,k,out=>⟨[],(jch _).symm,ja9 _⟩
 | m+1,k,out=>by
   rw [rcF]
   split
   · obtain ⟨l,h1,h2⟩:=ro m (k+(rc s k).2) (out++[(rc s k).1])
     exact ⟨(rc s k).1 :: l,by rw [h1,jbz];rfl,by simpa using h2⟩
   · exact ⟨[],(jch _).symm,jaU _⟩
theorem rp {d e:ByteArray} (H:∀ k,(rc d k).2 ≠ 0→rc (d++e) k=rc d k):∀ (m:Nat) (k:Int) (out:List (List D)),60≤m+out.length →
 ∃ m',60≤m' + (rcF rc d m k out).1.length∧rcF rc (d++e) m k out=rcF rc (d++e) m' (rcF rc d m k out).2 (rcF rc d m k out).1
 | 0,k,out,h=>⟨0,h,rfl⟩
 | m+1,k,out,h=>by
   by_cases hc:out.length < 60∧(rc d k).2 ≠ 0
   · obtain ⟨m',h1,h2⟩:=rp H m (k+(rc d k).2) (out++[(rc d k).1]) (by rw [jaV];simp;omega)
     have e1:rcF rc d (m+1) k out=rcF rc d m (k+(rc d k).2) (out++[(rc d k).1]):=by rw [rcF,if_pos hc]
     have e2:rcF rc (d++e) (m+1) k out=rcF rc (d++e) m (k+(rc d k).2) (out++[(rc d k).1]):=by rw [rcF,H k hc.2,if_pos hc]
     rw [e1,e2]
     exact ⟨m',h1,h2⟩
   · have e1:rcF rc d (m+1) k out=(out,k):=by rw [rcF,if_neg hc]
     rw [e1]
     exact ⟨m+1,h,rfl⟩
theorem rq {d e:ByteArray} (H:∀ k,(rc d k).2 ≠ 0→rc (d++e) k=rc d k):∃ l,(rcA rc (d++e)).1=(rcA rc d).1++l:=by
 obtain ⟨m',_,h⟩:=rp H 60 0 [] (by simp)
 unfold rcA
 rw [h]
 obtain ⟨l,h,_⟩:=ro (rc:=rc) (s:=d++e) m' (rcF rc d 60 0 []).2 (rcF rc d 60 0 []).1
 exact ⟨l,h⟩
end
end Go.Proofs.YtkpnfbdoaljkpaaGreatDoor.Ab
namespace Go.Proofs.YtkpnfbdoaljkpaaGreatDoor.Ab
open Go.RowKit
set_option linter.all false
set_option maxRecDepth 100000
theorem sB (s:ByteArray) (m:Nat):s.extract 0 m++s.extract m s.size=s:=by
 apply jcf
 rw [ByteArray.data_append,jcK,jcK,Array.extract_append_extract]
 simp
 exact .inr (Nat.le_max_right _ _)
theorem vd {rc:ByteArray→Int→List D × Int} (hw:RcOk rc) {s:ByteArray} (hs:s.size≤1048576):∀ (m:Nat) (k:Int) (out:List (List D)),(∀ r ∈ out,WfRow T cO r)→∀ r ∈ (rcF rc s m k out).1,WfRow T cO r
 | 0,k,out,h=>h
 | m+1,k,out,h=>by
   rw [rcF]
   split
   · refine vd hw hs m _ _ fun r hr=>?_
     rcases jbt.1 hr with h1|h1
     · exact h r h1
     · rw [jbK.1 h1];exact (hw s k hs).1
   · exact h
theorem lawC:LawC rcX where
 pos s hs:=vg rcX_ok hs
 app d e:=rq fun k h=>re h
 pre s m:=by
  have:=rq (rc:=rcX) (d:=s.extract 0 m) (e:=s.extract m s.size) fun k h=>re h
  rwa [sB] at this
 wf s hs:=vd rcX_ok hs 60 0 [] (fun r hr=>absurd hr jaX)
end Go.Proofs.YtkpnfbdoaljkpaaGreatDoor.Ab
