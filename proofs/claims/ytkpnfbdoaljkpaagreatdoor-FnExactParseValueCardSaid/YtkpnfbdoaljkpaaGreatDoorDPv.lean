/- The values' readers with no premise; no more cells than their texts have bytes, times a -/
import Derived.Test.YtkpnfbdoaljkpaaGreatDoorDYy
import Derived.Test.YtkpnfbdoaljkpaaGreatDoorDYn
import Derived.Test.YtkpnfbdoaljkpaaGreatDoorDYl
import Derived.Test.YtkpnfbdoaljkpaaGreatDoorDLx
import Derived.Test.YtkpnfbdoaljkpaaGreatDoorDWw
import Derived.Test.YtkpnfbdoaljkpaaGreatDoorDMo
namespace Go.Proofs.YtkpnfbdoaljkpaaGreatDoor.Ab
open Go.RowKit
set_option linter.unusedVariables false
set_option maxRecDepth 100000
noncomputable def pvY:ByteArray→List D × Bool:=pvS 1048577
theorem pvY_w (t:ByteArray) (ht:t.size≤1048576):WfRow T cV (pvY t).1∧wRow (pvY t).1≤2097152:=by
  have h0:=wf_par ht 1048577 0 (Int.le_refl _) (Int.natCast_nonneg _)
  have h1:=parF_pos t 1048577 0 (Int.le_refl _) (Int.natCast_nonneg _)
  unfold pvY pvS pvOf
  split
  · refine ⟨h0,?_⟩
    show wRow (parF t 1048577 0).1≤2097152
    unfold Pos at h1
    omega
  · refine ⟨?_,by decide⟩
    have z:inK .i64 0:=k0 0 (by decide) (by decide)
    have h2:=wf_par ht 0 0 (Int.le_refl _) (Int.natCast_nonneg _)
    exact h2
theorem pvY_s:FOk Tryz.prog T 24 (spPV2 cV pvY):=FOk.pv2 (n:=1048577) (Nat.le_refl _) (xk24 1048577)
theorem pvY_eq:pvI=pvY:=funext fun s=>(pv_same (n:=1048577) (by decide) s).symm
theorem pvY_i:FOk Tryz.prog Td 25 (spPV2O cV pvY):=by
  rw [← pvY_eq]
  exact FOk.pv2O (xd25 1048577)
theorem tab_short:∀ (e:TypeId) (ty:Ty),T e=some ty→ty.cts.length≤64:=by
  intro e ty h
  have hp:∀ p ∈ tab,p.2.cts.length≤64:=by decide
  have h' : (tab.find? (·.1 == e)).map (·.2)=some ty:=h
  cases hf:tab.find? (·.1 == e) with
  | none=>rw [hf] at h';cases h'
  | some p =>
    rw [hf] at h'
    obtain rfl:=Option.some.inj h'
    exact hp p (List.mem_of_find?_eq_some hf)
theorem cRow_le:∀ (r:List D),(∀ d ∈ r,cD d≤64 * wD d+1)→cRow r≤64 * wRow r+r.length
  | [],_=>Nat.le_refl _
  | d :: r,h=>by
    have h1:=h d (List.mem_cons_self ..)
    have h2:=cRow_le r fun x hx=>h x (List.mem_cons_of_mem _ hx)
    simp only [cRow,wRow,List.length_cons]
    omega
theorem cRows_wle:∀ (l:List (List D)),(∀ r ∈ l,r.length≤64∧∀ d ∈ r,cD d≤64 * wD d+1)→cRows l≤64 * (l.length+wRows l)
  | [],_=>Nat.zero_le _
  | r :: l,h=>by
    obtain ⟨h0,h1⟩:=h r (List.mem_cons_self ..)
    have h2:=cRow_le r h1
    have h3:=cRows_wle l fun x hx=>h x (List.mem_cons_of_mem _ hx)
    simp only [cRows,wRows,List.length_cons]
    omega
theorem cD_le {ct:CT} {d:D} (h:WfD T ct d):cD d≤64 * wD d+1:=by
  induction h with
  | int k n hn=>simp [cD]
  | bool x=>simp [cD]
  | str x hx=>simp [cD]
  | nil e=>simp [cD,cRows]
  | sl e ty rows h1 h2 h3 h4 ih =>
    have h:=cRows_wle rows fun r hr=>by
      obtain ⟨k,hk,rfl⟩:=List.getElem_of_mem hr
      have hl:=h3 k _ (List.getElem?_eq_getElem hk)
      have hs:=tab_short e ty h1
      refine ⟨by omega,fun d hd=>?_⟩
      obtain ⟨j,hj,rfl⟩:=List.getElem_of_mem hd
      exact ih k j _ _ _ (List.getElem?_eq_getElem hk) (List.getElem?_eq_getElem (by omega)) (List.getElem?_eq_getElem hj)
    simp only [cD,wD]
    omega
theorem cSl_le:∀ (r:List D),cSl r≤cRow r
  | []=>Nat.le_refl _
  | .l x :: r=>by have:=cSl_le r;simp only [cSl,cRow,cD];omega
  | .i x :: r=>by have:=cSl_le r;simp only [cSl,cRow,cD];omega
  | .s x :: r=>by have:=cSl_le r;simp only [cSl,cRow,cD];omega
  | .b x :: r=>by have:=cSl_le r;simp only [cSl,cRow,cD];omega
theorem pvY_c (s:ByteArray) (hs:s.size≤1048576):1+(cSl (pvY s).1:Int)≤4611686018427387904:=by
  obtain ⟨h1,h2⟩:=pvY_w s hs
  have h3:=cSl_le (pvY s).1
  have h4:=cRow_le (pvY s).1 fun d hd=>by
    obtain ⟨j,hj,rfl⟩:=List.getElem_of_mem hd
    have hl:=h1.1
    exact cD_le (h1.2 j _ _ (List.getElem?_eq_getElem (by omega)) (List.getElem?_eq_getElem hj))
  have h5:(pvY s).1.length=7:=h1.1
  omega
end Go.Proofs.YtkpnfbdoaljkpaaGreatDoor.Ab
