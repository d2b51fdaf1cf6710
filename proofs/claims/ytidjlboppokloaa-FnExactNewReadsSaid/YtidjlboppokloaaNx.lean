/- The law FnExactNewReads, walked. -/
import Derived.Test.YtidjlboppokloaaNh
import Derived.Test.YtidjlboppokloaaFrame
namespace Go.Proofs.Ytidjlboppokloaa.Ab
open Go.RowKit
set_option linter.unusedVariables false
set_option maxRecDepth 100000
theorem tab_short : ∀ (e : TypeId) (ty : Ty), T e = some ty → ty.cts.length ≤ 64 := by
  intro e ty h
  have hp : ∀ p ∈ tab, p.2.cts.length ≤ 64 := by decide
  have h' : (tab.find? (·.1 == e)).map (·.2) = some ty := h
  cases hf : tab.find? (·.1 == e) with
  | none => rw [hf] at h'; cases h'
  | some p =>
    rw [hf] at h'
    obtain rfl := Option.some.inj h'
    exact hp p (List.mem_of_find?_eq_some hf)
theorem cRow_le : ∀ (r : List D), (∀ d ∈ r, cD d ≤ 64 * wD d + 1) → cRow r ≤ 64 * wRow r + r.length
  | [], _ => Nat.le_refl _
  | d :: r, h => by
    have h1 := h d (List.mem_cons_self ..)
    have h2 := cRow_le r fun x hx => h x (List.mem_cons_of_mem _ hx)
    simp only [cRow, wRow, List.length_cons]
    omega
theorem cRows_wle : ∀ (l : List (List D)), (∀ r ∈ l, r.length ≤ 64 ∧ ∀ d ∈ r, cD d ≤ 64 * wD d + 1) → cRows l ≤ 64 * (l.length + wRows l)
  | [], _ => Nat.zero_le _
  | r :: l, h => by
    obtain ⟨h0, h1⟩ := h r (List.mem_cons_self ..)
    have h2 := cRow_le r h1
    have h3 := cRows_wle l fun x hx => h x (List.mem_cons_of_mem _ hx)
    simp only [cRows, wRows, List.length_cons]
    omega
theorem cD_le {ct : CT} {d : D} (h : WfD T ct d) : cD d ≤ 64 * wD d + 1 := by
  induction h with
  | int k n hn => simp [cD]
  | bool x => simp [cD]
  | str x hx => simp [cD]
  | nil e => simp [cD, cRows]
  | sl e ty rows h1 h2 h3 h4 ih =>
    have h := cRows_wle rows fun r hr => by
      obtain ⟨k, hk, rfl⟩ := List.getElem_of_mem hr
      have hl := h3 k _ (List.getElem?_eq_getElem hk)
      have hs := tab_short e ty h1
      refine ⟨by omega, fun d hd => ?_⟩
      obtain ⟨j, hj, rfl⟩ := List.getElem_of_mem hd
      exact ih k j _ _ _ (List.getElem?_eq_getElem hk) (List.getElem?_eq_getElem (by omega)) (List.getElem?_eq_getElem hj)
    simp only [cD, wD]
    omega
theorem cRows_wf {e : TypeId} {a : List (List D)} (h : WfD T (.l e) (.l a)) (hs : a.length + wRows a ≤ 1048576) : cRows a ≤ 67108865 := by
  have := cD_le h
  simp only [cD, wD] at this
  omega
theorem filter_size (p : List D → Bool) : ∀ l : List (List D), (l.filter p).length + wRows (l.filter p) ≤ l.length + wRows l
  | [] => Nat.le_refl _
  | r :: l => by
    have ih := filter_size p l
    rw [List.filter_cons]
    split
    · simp only [wRows, List.length_cons]; omega
    · simp only [wRows, List.length_cons]; omega
theorem newRow_size (a : List (List D)) (t : List D) : (newRow a t).length + wRows (newRow a t) ≤ 1 + wRow t := by
  unfold newRow
  split
  · have h1 := filter_size (keepR a t) ((t.getD 2 default).rows.take (t.getD 2 default).rows.length)
    rw [List.take_length] at h1
    have h2 := wRows_cell t 2
    have e : newT a t (t.getD 2 default).rows.length = (t.getD 2 default).rows.filter (keepR a t) := by unfold newT; rw [List.take_length]
    rw [e]
    simp only [tapeR, wRows, wRow, wD, List.length_cons, List.length_nil]
    omega
  · simp only [wRows, List.length_nil]; omega
theorem newR_size (a b : List (List D)) : (newR a b).length + wRows (newR a b) ≤ b.length + wRows b := by
  have key : ∀ l : List (List D), (l.flatMap (newRow a)).length + wRows (l.flatMap (newRow a)) ≤ l.length + wRows l := by
    intro l
    induction l with
    | nil => exact Nat.le_refl _
    | cons t l ih =>
      have h1 := newRow_size a t
      rw [List.flatMap_cons, List.length_append, wRows_append]
      simp only [wRows, List.length_cons]
      omega
  have := key b
  unfold newR newTo
  rw [List.take_length]
  exact this
end Go.Proofs.Ytidjlboppokloaa.Ab
