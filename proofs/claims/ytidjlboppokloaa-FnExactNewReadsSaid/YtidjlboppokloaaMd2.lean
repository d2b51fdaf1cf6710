/- A cell, a row of an owned slice takes a value with what it owns. No program in sight. -/
import Derived.Test.YtidjlboppokloaaMd
namespace Go.Proofs.Ytidjlboppokloaa.Ab
open Go.RowKit
set_option linter.unusedVariables false
section
variable {T : Tab} {w : World} {F : Nat → Prop} {e : TypeId} {ty : Ty} {g n cap : Nat} {rows : List (List D)}
/-- A cell of an owned slice takes a value that owns blocks of its own. -/
theorem DeepV.put (h : DeepV T w F (.l e) (.slice (Option.some ⟨g, 0, none⟩) n cap) (.l rows)) (he : T e = Option.some ty) {k j : Nat} {ct : CT} (hk : k < n) (hj : ty.cts[j]? = Option.some ct) {o : Nat} (ho : k * ty.cts.length + j = o)
    {u' : Value} {d' : D} {G' : Nat → Prop} (hD : DeepV T w G' ct u' d') (hdj : ∀ b, G' b → ¬ F b) :
    ∃ F' : Nat → Prop, DeepV T (w.setCell ⟨g, o, none⟩ u') F' (.l e) (.slice (Option.some ⟨g, 0, none⟩) n cap) (.l (setD rows k j d')) ∧ (∀ b, F' b → F b ∨ G' b) ∧ F' g := by
  subst ho
  obtain ⟨ty', xs, G, h1, h2, h3, h4, h5, h6, h7⟩ := h.inv
  obtain rfl : ty = ty' := Option.some.inj (he.symm.trans h1)
  obtain ⟨A', c', hs⟩ := h.slice
  obtain rfl : n = rows.length := by cases hs; rfl
  clear hs
  have hjl : j < ty.cts.length := (List.getElem?_eq_some_iff.1 hj).1
  have hlt := idx_lt hk hjl
  have hx : xs.length = rows.length * ty.cts.length := h2.1
  have hF : F g := (h4 g).2 (.inl rfl)
  obtain ⟨cur, hcur, hn1, hn2, hn3, hn4⟩ : ∃ cur, w.heap[g]? = Option.some (.cells cur e (0, 0)) ∧ rows.length ≤ cap ∧ cap ≤ maxLen ∧ cur.size = cap * ty.cts.length ∧ cur.toList.take (rows.length * ty.cts.length) = xs := by
    rcases h2.2 with ⟨e1, _⟩ | ⟨g', cap', cur, e1, _, e3, e4, e5, e6, e7⟩
    · cases e1
    · cases e1; exact ⟨cur, e3, e4, e5, e6, e7⟩
  have hl := setD_length rows k j d'
  obtain ⟨i0, hi0⟩ : ∃ i0, k * ty.cts.length + j = i0 := ⟨_, rfl⟩
  rw [hi0] at hlt ⊢
  have hblk : ∀ b, b ≠ g → (w.setCell ⟨g, i0, none⟩ u').heap[b]? = w.heap[b]? := fun b hb => by simp [World.setCell, Array.getElem?_modify, Ne.symm hb]
  have hgG : ∀ b, G' b → b ≠ g := fun b hb hbg => hdj b hb (hbg ▸ hF)
  have hGg : ∀ i b, G i b → b ≠ g := fun i b hb hbg => (h5 i b hb).1 (by rw [hbg]; rfl)
  let Gn : Nat → Nat → Prop := fun i b => (i = i0 ∧ G' b) ∨ (i ≠ i0 ∧ G i b)
  refine ⟨fun b => (Value.slice (Option.some ⟨g, 0, none⟩) rows.length cap).ownBlock = Option.some b ∨ ∃ i, Gn i b, ?_, ?_, .inl rfl⟩
  · have hcur' : (w.setCell ⟨g, i0, none⟩ u').heap[g]? = Option.some (.cells (cur.setIfInBounds i0 u') e (0, 0)) := by simp [World.setCell, Array.getElem?_modify, hcur]
    have hrow : (w.setCell ⟨g, i0, none⟩ u').ownsRow 0 e ty.cts.length (.slice (Option.some ⟨g, 0, none⟩) rows.length cap) (setD rows k j d').length (xs.set i0 u') := by
      rw [hl]
      refine ⟨by rw [List.length_set]; exact hx, .inr ⟨g, cap, _, rfl, Nat.zero_le _, hcur', hn1, hn2, by simpa using hn3, ?_⟩⟩
      rw [Array.toList_setIfInBounds, ← hn4, List.take_set]
    refine .sl _ e ty _ _ (xs.set i0 u') Gn he hrow (fun k' row hr => ?_) (fun b => Iff.rfl) (fun i b hi => ?_) (fun i i' b hi hi' => ?_) (fun k' j' ct' dd row hr hc hrd => ?_)
    · obtain ⟨r, a1, a2, _⟩ := setD_row hk hr
      exact a2.trans (h3 k' r a1)
    · rw [hl]
      rcases hi with ⟨rfl, hb⟩ | ⟨_, hb⟩
      · exact ⟨fun hq => hgG b hb (by simpa [Value.ownBlock] using hq.symm), hlt⟩
      · exact h5 i b hb
    · rcases hi with ⟨rfl, hb⟩ | ⟨hne, hb⟩
      · rcases hi' with ⟨rfl, _⟩ | ⟨_, hb'⟩
        · rfl
        · exact absurd ((h4 b).2 (.inr ⟨_, hb'⟩)) (hdj b hb)
      · rcases hi' with ⟨rfl, hb'⟩ | ⟨_, hb'⟩
        · exact absurd ((h4 b).2 (.inr ⟨_, hb⟩)) (hdj b hb')
        · exact h6 i i' b hb hb'
    · obtain ⟨r, a1, a2, a3, a4⟩ := setD_row hk hr
      have hj' : j' < ty.cts.length := (List.getElem?_eq_some_iff.1 hc).1
      have hk' : k' < rows.length := (List.getElem?_eq_some_iff.1 a1).1
      have cong : ∀ {A B : Nat → Prop} {ct2 : CT} {u2 : Value} {d2 : D}, DeepV T (w.setCell ⟨g, i0, none⟩ u') A ct2 u2 d2 → (∀ b, A b ↔ B b) → DeepV T (w.setCell ⟨g, i0, none⟩ u') B ct2 u2 d2 := fun h hab => by
        rename_i A B _ _ _
        rw [show A = B from funext fun b => propext (hab b)] at h
        exact h
      have other : k' * ty.cts.length + j' ≠ i0 → r[j']? = Option.some dd → DeepV T (w.setCell ⟨g, i0, none⟩ u') (Gn (k' * ty.cts.length + j')) ct' ((xs.set i0 u').getD (k' * ty.cts.length + j') undef) dd := by
        intro hne hrd'
        rw [List.getD_eq_getElem?_getD, List.getElem?_set_ne (Ne.symm hne), ← List.getD_eq_getElem?_getD]
        exact cong ((h7 k' j' ct' dd r a1 hc hrd').move fun b hb => hblk b (hGg _ b hb)) fun b => ⟨fun hb => .inr ⟨hne, hb⟩, fun hb => by
          rcases hb with ⟨he', _⟩ | ⟨_, hb⟩
          · exact absurd he' hne
          · exact hb⟩
      by_cases ek : k' = k
      · subst ek
        rw [a3 rfl] at hrd
        by_cases ej : j' = j
        · subst ej
          obtain rfl : ct = ct' := Option.some.inj (hj.symm.trans hc)
          rw [List.getElem?_set_self (by rw [h3 k' r a1]; exact hj')] at hrd
          obtain rfl := Option.some.inj hrd
          rw [hi0, List.getD_eq_getElem?_getD, List.getElem?_set_self (by omega)]
          exact cong (hD.move fun b hb => hblk b (hgG b hb)) fun b => ⟨fun hb => .inl ⟨rfl, hb⟩, fun hb => by
            rcases hb with ⟨_, hb⟩ | ⟨hne, _⟩
            · exact hb
            · exact absurd rfl hne⟩
        · rw [List.getElem?_set_ne (Ne.symm ej)] at hrd
          exact other (fun h => ej (idx_inj hj' hjl (h.trans hi0.symm)).2) hrd
      · rw [a4 ek] at hrd
        exact other (fun h => ek (idx_inj hj' hjl (h.trans hi0.symm)).1) hrd
  · rintro b (hb | ⟨i, ⟨_, hb⟩ | ⟨_, hb⟩⟩)
    · exact .inl ((h4 b).2 (.inl hb))
    · exact .inr hb
    · exact .inl ((h4 b).2 (.inr ⟨i, hb⟩))
end
end Go.Proofs.Ytidjlboppokloaa.Ab
