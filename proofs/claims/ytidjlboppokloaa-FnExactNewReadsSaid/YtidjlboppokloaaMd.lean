/- Owned data in raw memory: its cells are read, written, and its parts handed on; marks over data. No program in sight. -/
import Derived.Test.YtidjlboppokloaaK4
namespace Go.Proofs.Ytidjlboppokloaa.Ab
open Go.RowKit
set_option linter.unusedVariables false
/-- Row k takes data at place j. -/
def setD (rows : List (List D)) (k j : Nat) (d : D) : List (List D) := rows.set k ((rows.getD k []).set j d)
theorem setD_length (rows : List (List D)) (k j : Nat) (d : D) : (setD rows k j d).length = rows.length := List.length_set
theorem setD_row {rows : List (List D)} {k j : Nat} {d : D} {k' : Nat} {row : List D} (hk : k < rows.length) (h : (setD rows k j d)[k']? = some row) :
    ∃ r, rows[k']? = some r ∧ row.length = r.length ∧ (k' = k → row = r.set j d) ∧ (k' ≠ k → row = r) := by
  unfold setD at h
  by_cases e : k' = k
  · subst e
    rw [List.getElem?_set_self hk] at h
    have h := Option.some.inj h
    have hr : rows.getD k' [] = rows[k'] := by simp [List.getD_eq_getElem?_getD, List.getElem?_eq_getElem hk]
    rw [hr] at h
    exact ⟨_, List.getElem?_eq_getElem hk, by rw [← h, List.length_set], fun _ => h.symm, fun h => absurd rfl h⟩
  · rw [List.getElem?_set_ne (Ne.symm e)] at h
    exact ⟨row, h, rfl, fun h => absurd h e, fun _ => rfl⟩
theorem idx_lt {k n j m : Nat} (hk : k < n) (hj : j < m) : k * m + j < n * m := by
  have : k * m + m ≤ n * m := by rw [← Nat.succ_mul]; exact Nat.mul_le_mul_right _ hk
  omega
theorem idx_inj {k k' j j' m : Nat} (hj : j < m) (hj' : j' < m) (h : k * m + j = k' * m + j') : k = k' ∧ j = j' := by
  have h1 : (k * m + j) / m = k := by rw [Nat.mul_comm, Nat.mul_add_div (by omega), Nat.div_eq_of_lt hj, Nat.add_zero]
  have h2 : (k' * m + j') / m = k' := by rw [Nat.mul_comm, Nat.mul_add_div (by omega), Nat.div_eq_of_lt hj', Nat.add_zero]
  have : k = k' := by rw [← h1, ← h2, h]
  subst this
  exact ⟨rfl, by omega⟩
section
variable {T : Tab} {w : World} {F : Nat → Prop} {e : TypeId} {ty : Ty} {g n cap : Nat} {rows : List (List D)}
/-- A cell of an owned slice: what it is, what is owned with it, and how it takes another. -/
theorem DeepV.part (h : DeepV T w F (.l e) (.slice (some ⟨g, 0, none⟩) n cap) (.l rows)) (he : T e = some ty) {k j : Nat} {ct : CT} (hk : k < n) (hj : ty.cts[j]? = some ct) {o : Nat} (ho : k * ty.cts.length + j = o) :
    n = rows.length ∧ F g ∧ g < w.heap.size ∧ ∃ (u : Value) (d : D) (G : Nat → Prop), w.cell? ⟨g, o, none⟩ = some u ∧ w.frozen? ⟨g, o, none⟩ = false ∧ (rows.getD k [])[j]? = some d ∧
      DeepV T w G ct u d ∧ (∀ b, G b → F b ∧ b ≠ g) ∧
      (∀ w' d', (∀ b, F b → ¬ G b → w'.heap[b]? = w.heap[b]?) → DeepV T w' G ct u d' → DeepV T w' F (.l e) (.slice (some ⟨g, 0, none⟩) n cap) (.l (setD rows k j d'))) ∧
      ((∀ e', ct ≠ .l e') → ∀ u' d', RdR T w (fun _ => False) ct u' d' → DeepV T (w.setCell ⟨g, o, none⟩ u') F (.l e) (.slice (some ⟨g, 0, none⟩) n cap) (.l (setD rows k j d'))) := by
  subst ho
  obtain ⟨ty', xs, G, h1, h2, h3, h4, h5, h6, h7⟩ := h.inv
  obtain rfl : ty = ty' := Option.some.inj (he.symm.trans h1)
  obtain ⟨A', c', hs⟩ := h.slice
  obtain rfl : n = rows.length := by cases hs; rfl
  clear hs
  have hjl : j < ty.cts.length := (List.getElem?_eq_some_iff.1 hj).1
  have hlt := idx_lt hk hjl
  have hx : xs.length = rows.length * ty.cts.length := h2.1
  have hrow : rows[k]? = some (rows.getD k []) := by simp [List.getD_eq_getElem?_getD, List.getElem?_eq_getElem hk]
  have hrl := h3 k _ hrow
  have hd : (rows.getD k [])[j]? = some ((rows.getD k [])[j]'(by omega)) := List.getElem?_eq_getElem (by omega)
  have hu : xs[k * ty.cts.length + j]? = some (xs.getD (k * ty.cts.length + j) undef) := by simp [List.getD_eq_getElem?_getD, List.getElem?_eq_getElem (show k * ty.cts.length + j < xs.length by omega)]
  have hcell := h2.cells (g := g) rfl _ _ hu
  rw [Addr.add_mid, Nat.zero_add] at hcell
  have hF : F g := (h4 g).2 (.inl rfl)
  have hD := h7 k j ct _ _ hrow hj hd
  obtain ⟨cur, hcur, hn1, hn2, hn3, hn4⟩ : ∃ cur, w.heap[g]? = some (.cells cur e (0, 0)) ∧ rows.length ≤ cap ∧ cap ≤ maxLen ∧ cur.size = cap * ty.cts.length ∧ cur.toList.take (rows.length * ty.cts.length) = xs := by
    rcases h2.2 with ⟨e1, _⟩ | ⟨g', cap', cur, e1, _, e3, e4, e5, e6, e7⟩
    · cases e1
    · cases e1; exact ⟨cur, e3, e4, e5, e6, e7⟩
  have hfr : w.frozen? ⟨g, k * ty.cts.length + j, none⟩ = false := by simp [World.frozen?, hcur]
  have step : ∀ (w' : World) (u' : Value) (d' : D) (cur' : Array Value), w'.heap[g]? = some (.cells cur' e (0, 0)) → cur'.size = cur.size → cur'.toList.take (rows.length * ty.cts.length) = xs.set (k * ty.cts.length + j) u' →
      (∀ b, F b → b ≠ g → ¬ G (k * ty.cts.length + j) b → w'.heap[b]? = w.heap[b]?) → DeepV T w' (G (k * ty.cts.length + j)) ct u' d' → DeepV T w' F (.l e) (.slice (some ⟨g, 0, none⟩) rows.length cap) (.l (setD rows k j d')) := by
    intro w' u' d' cur' c1 c2 c3 c4 c5
    have hl := setD_length rows k j d'
    rw [← hl] at c3 hn1 ⊢
    refine .sl F e ty _ _ (xs.set (k * ty.cts.length + j) u') G he ⟨by rw [List.length_set, hl]; exact hx, .inr ⟨g, cap, cur', rfl, Nat.zero_le _, c1, hn1, hn2, c2.trans hn3, c3⟩⟩ (fun k' row hr => ?_) h4 (fun i b hi => by rw [hl]; exact h5 i b hi) h6 (fun k' j' ct' dd row hr hc hrd => ?_)
    · obtain ⟨r, a1, a2, _⟩ := setD_row hk hr
      exact a2.trans (h3 k' r a1)
    · obtain ⟨r, a1, a2, a3, a4⟩ := setD_row hk hr
      have hj' : j' < ty.cts.length := (List.getElem?_eq_some_iff.1 hc).1
      have hk' : k' < rows.length := (List.getElem?_eq_some_iff.1 a1).1
      have other : k' * ty.cts.length + j' ≠ k * ty.cts.length + j → r[j']? = some dd → DeepV T w' (G (k' * ty.cts.length + j')) ct' ((xs.set (k * ty.cts.length + j) u').getD (k' * ty.cts.length + j') undef) dd := by
        intro hne hrd'
        rw [List.getD_eq_getElem?_getD, List.getElem?_set_ne (Ne.symm hne), ← List.getD_eq_getElem?_getD]
        refine (h7 k' j' ct' dd r a1 hc hrd').move fun b hb => ?_
        exact c4 b ((h4 b).2 (.inr ⟨_, hb⟩)) (fun hb' => (h5 _ b hb).1 (by rw [hb']; rfl)) (fun hb' => hne (h6 _ _ b hb hb'))
      by_cases ek : k' = k
      · subst ek
        rw [a3 rfl] at hrd
        by_cases ej : j' = j
        · subst ej
          obtain rfl : ct = ct' := Option.some.inj (hj.symm.trans hc)
          rw [List.getElem?_set_self (by rw [h3 k' r a1]; exact hj')] at hrd
          obtain rfl := Option.some.inj hrd
          rw [List.getD_eq_getElem?_getD, List.getElem?_set_self (by omega)]
          exact c5
        · rw [List.getElem?_set_ne (Ne.symm ej)] at hrd
          exact other (fun h => ej (idx_inj hj' hjl h).2) hrd
      · rw [a4 ek] at hrd
        exact other (fun h => ek (idx_inj hj' hjl h).1) hrd
  refine ⟨rfl, hF, (Array.getElem?_eq_some_iff.1 hcur).1, _, _, _, hcell, hfr, hd, hD, fun b hb => ⟨(h4 b).2 (.inr ⟨_, hb⟩), fun hb' => (h5 _ b hb).1 (by rw [hb']; rfl)⟩, fun w' d' hw hd' => ?_, fun hc u' d' hr => ?_⟩
  · refine step w' _ d' cur ?_ rfl ?_ (fun b h1 _ h3 => hw b h1 h3) hd'
    · rw [hw g hF (fun hb => (h5 _ g hb).1 rfl)]; exact hcur
    · rw [hn4, List.getD_eq_getElem?_getD, List.getElem?_eq_getElem (show k * ty.cts.length + j < xs.length by omega), Option.getD_some, List.set_getElem_self]
  · refine step _ u' d' (cur.setIfInBounds (k * ty.cts.length + j) u') ?_ (by simp) ?_ (fun b _ hb _ => ?_) (.flat _ _ _ _ (hD.noF hc) hc (hr.plain hc))
    · simp [World.setCell, Array.getElem?_modify, hcur]
    · rw [Array.toList_setIfInBounds, ← hn4, List.take_set]
    · simp [World.setCell, Array.getElem?_modify, Ne.symm hb]
end
theorem DeepV.some {T : Tab} {w : World} {F : Nat → Prop} {e : TypeId} {A : Option Addr} {n c : Nat} {rows : List (List D)} (h : DeepV T w F (.l e) (.slice A n c) (.l rows)) (hn : 0 < n) : ∃ g, A = Option.some ⟨g, 0, none⟩ := by
  obtain ⟨ty, xs, G, h1, h2, _⟩ := h.inv
  rcases h2.2 with ⟨e1, e2⟩ | ⟨g, cap, cur, e1, _⟩
  · cases e1; omega
  · cases e1; exact ⟨g, rfl⟩
theorem DeepV.len {T : Tab} {w : World} {F : Nat → Prop} {e : TypeId} {A : Option Addr} {n c : Nat} {rows : List (List D)} (h : DeepV T w F (.l e) (.slice A n c) (.l rows)) : n = rows.length := by
  obtain ⟨A', c', hs⟩ := h.slice
  cases hs; rfl
theorem DeepV.short {T : Tab} {w : World} {F : Nat → Prop} {e : TypeId} {v : Value} {rows : List (List D)} (h : DeepV T w F (.l e) v (.l rows)) : rows.length ≤ maxLen := by
  obtain ⟨ty, xs, G, h1, h2, _⟩ := h.inv
  rcases h2.2 with ⟨_, e2⟩ | ⟨g, cap, cur, _, _, _, e4, e5, _⟩
  · omega
  · exact Nat.le_trans e4 e5
end Go.Proofs.Ytidjlboppokloaa.Ab
