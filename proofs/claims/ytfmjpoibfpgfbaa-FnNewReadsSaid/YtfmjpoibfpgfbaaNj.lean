/- New reads put into tapes leave none, in plain Lean. No program in sight. -/
import Derived.Test.YtfmjpoibfpgfbaaNg
namespace Go.Proofs.Ytfmjpoibfpgfbaa.Ab
noncomputable section
open Go.RowKit
set_option linter.unusedVariables false
theorem tapeOf_find (l : List (List D)) (c v : Int) : tapeOf l c v = match l.find? (keyT c v) with
    | some t => (t.getD 2 default).rows
    | none => [] := by
  have ha := atI_in l c v
  unfold tapeOf
  cases hk : l.findIdx? (keyT c v) with
  | none =>
    have h1 : atI l c v = -1 := by unfold atI; rw [hk]
    have h2 : l.find? (keyT c v) = none := by
      rw [List.find?_eq_none]
      intro x hx
      have := List.findIdx?_eq_none_iff.1 hk x hx
      simpa using this
    rw [h1, h2]
    rfl
  | some k =>
    obtain ⟨h3, h4, h5⟩ := List.findIdx?_eq_some_iff_getElem.1 hk
    have h1 : atI l c v = (k : Int) := by unfold atI; rw [hk]
    have hg : l.getD k [] = l[k] := by simp [List.getD_eq_getElem?_getD, List.getElem?_eq_getElem h3]
    have h2 : l.find? (keyT c v) = some (l.getD ((k : Int)).toNat []) := by
      refine (find_at (by omega) (by omega) ?_ ?_).1
      · rw [Int.toNat_natCast]
        refine List.any_eq_false.2 fun x hx => ?_
        obtain ⟨j, hj, rfl⟩ := List.mem_iff_getElem.1 hx
        rw [List.length_take] at hj
        rw [List.getElem_take]
        exact h5 j (by omega)
      · rw [Int.toNat_natCast, hg]
        exact h4
    rw [h1, h2, if_neg (by omega)]
theorem sameK_refl (r : List D) : sameK r r = true := by simp [sameK]
theorem found_mem {l : List (List D)} {r : List D} (h : r ∈ l) : found l r = true := List.any_eq_true.2 ⟨r, h, sameK_refl r⟩
theorem found_sub {l m : List (List D)} (h : ∀ x ∈ l, x ∈ m) {r : List D} (hf : found l r = true) : found m r = true := by
  obtain ⟨x, hx, hs⟩ := List.any_eq_true.1 hf
  exact List.any_eq_true.2 ⟨x, h x hx, hs⟩
theorem mergeR_cons (a b : List (List D)) (x : List D) : mergeR a (x :: b) = mergeR (if found a x then a else a ++ [x]) b := rfl
theorem merge_left : ∀ (b a : List (List D)) {r : List D}, found a r = true → found (mergeR a b) r = true
  | [], a, r, h => h
  | x :: b, a, r, h => by
    rw [mergeR_cons]
    refine merge_left b _ ?_
    split
    · exact h
    · exact found_sub (fun y hy => List.mem_append_left _ hy) h
theorem merge_right : ∀ (b a : List (List D)) {r : List D}, r ∈ b → found (mergeR a b) r = true
  | x :: b, a, r, h => by
    rw [mergeR_cons]
    rcases List.mem_cons.1 h with rfl | h
    · refine merge_left b _ ?_
      split
      · assumption
      · exact found_mem (List.mem_append_right _ (List.mem_singleton_self _))
    · exact merge_right b _ h
theorem find_set_no {p : List D → Bool} : ∀ (l : List (List D)) (k : Nat) (r : List D), p (l.getD k []) = false → p r = false → (l.set k r).find? p = l.find? p
  | [], _, _, _, _ => rfl
  | x :: l, 0, r, h1, h2 => by
    rw [List.getD_cons_zero] at h1
    rw [List.set_cons_zero, List.find?_cons_of_neg (by simp [h2]), List.find?_cons_of_neg (by simp [h1])]
  | x :: l, k + 1, r, h1, h2 => by
    rw [List.getD_cons_succ] at h1
    rw [List.set_cons_succ]
    by_cases hx : p x = true
    · rw [List.find?_cons_of_pos hx, List.find?_cons_of_pos hx]
    · rw [List.find?_cons_of_neg hx, List.find?_cons_of_neg hx, find_set_no l k r h1 h2]
theorem find_set_yes {p : List D → Bool} : ∀ (l : List (List D)) (k : Nat) (r : List D), k < l.length → (l.take k).any p = false → p r = true → (l.set k r).find? p = some r
  | x :: l, 0, r, _, _, h2 => by rw [List.set_cons_zero, List.find?_cons_of_pos h2]
  | x :: l, k + 1, r, hk, h1, h2 => by
    rw [List.take_succ_cons, List.any_cons, Bool.or_eq_false_iff] at h1
    rw [List.set_cons_succ, List.find?_cons_of_neg (by rw [h1.1]; decide), find_set_yes l k r (by simpa using hk) h1.2 h2]
theorem key_tape (c v c' v' : Int) (rs : List (List D)) : keyT c' v' (tapeR c v rs) = (decide (c = c') && decide (v = v')) := rfl
theorem at_spec {l : List (List D)} {c v : Int} (h : ¬ atI l c v < 0) : (atI l c v).toNat < l.length ∧ (l.take (atI l c v).toNat).any (keyT c v) = false ∧ keyT c v (l.getD (atI l c v).toNat []) = true := by
  cases hk : l.findIdx? (keyT c v) with
  | none =>
    have h1 : atI l c v = -1 := by unfold atI; rw [hk]
    omega
  | some k =>
    obtain ⟨h3, h4, h5⟩ := List.findIdx?_eq_some_iff_getElem.1 hk
    have h1 : atI l c v = (k : Int) := by unfold atI; rw [hk]
    have hg : l.getD k [] = l[k] := by simp [List.getD_eq_getElem?_getD, List.getElem?_eq_getElem h3]
    rw [h1, Int.toNat_natCast]
    refine ⟨h3, List.any_eq_false.2 fun x hx => ?_, by rw [hg]; exact h4⟩
    obtain ⟨j, hj, rfl⟩ := List.mem_iff_getElem.1 hx
    rw [List.length_take] at hj
    rw [List.getElem_take]
    exact h5 j (by omega)
theorem at_no {l : List (List D)} {c v : Int} (h : atI l c v < 0) : l.find? (keyT c v) = none := by
  cases hk : l.findIdx? (keyT c v) with
  | none =>
    rw [List.find?_eq_none]
    intro x hx
    have := List.findIdx?_eq_none_iff.1 hk x hx
    simpa using this
  | some k =>
    have h1 : atI l c v = (k : Int) := by unfold atI; rw [hk]
    omega
/-- What the tape of a key holds behind a put. -/
theorem tape_put {l rs : List (List D)} {c v c' v' : Int} (hl : goodT l) : tapeOf (putT l c v rs) c' v' = if c = c' ∧ v = v' then (if atI l c v < 0 then (if rs.length = 0 then [] else mergeR [] rs) else mergeR (tapeOf l c v) rs) else tapeOf l c' v' := by
  unfold putT
  by_cases h : atI l c v < 0
  · rw [if_pos h]
    have hn := at_no h
    by_cases hr : rs.length = 0
    · rw [if_pos hr, if_pos hr]
      by_cases hk : c = c' ∧ v = v'
      · rw [if_pos hk, ← hk.1, ← hk.2, tapeOf_find, hn, if_pos h]
      · rw [if_neg hk]
    · rw [if_neg hr]
      have hsplit : (l.take (idxP (before (tapeR c v (mergeR [] rs))) l) ++ [tapeR c v (mergeR [] rs)] ++ l.drop (idxP (before (tapeR c v (mergeR [] rs))) l)).find? (keyT c' v') = ((l.take (idxP (before (tapeR c v (mergeR [] rs))) l)).find? (keyT c' v')).or (([tapeR c v (mergeR [] rs)].find? (keyT c' v')).or ((l.drop (idxP (before (tapeR c v (mergeR [] rs))) l)).find? (keyT c' v'))) := by
        rw [List.append_assoc, List.find?_append, List.find?_append]
      have horig : l.find? (keyT c' v') = ((l.take (idxP (before (tapeR c v (mergeR [] rs))) l)).find? (keyT c' v')).or ((l.drop (idxP (before (tapeR c v (mergeR [] rs))) l)).find? (keyT c' v')) := by
        rw [← List.find?_append, List.take_append_drop]
      rw [tapeOf_find, hsplit]
      by_cases hk : c = c' ∧ v = v'
      · obtain ⟨rfl, rfl⟩ := hk
        rw [hn] at horig
        have h1 : (l.take (idxP (before (tapeR c v (mergeR [] rs))) l)).find? (keyT c v) = none := by
          cases hq : (l.take (idxP (before (tapeR c v (mergeR [] rs))) l)).find? (keyT c v) with
          | none => rfl
          | some x => rw [hq] at horig; cases horig
        rw [h1, List.find?_cons_of_pos (by rw [key_tape]; simp), if_pos ⟨rfl, rfl⟩, if_pos h, if_neg hr]
        rfl
      · rw [List.find?_cons_of_neg (by rw [key_tape]; simpa using hk), if_neg hk, tapeOf_find, horig]
        rfl
  · rw [if_neg h, if_neg h]
    obtain ⟨g1, g2, g3⟩ := at_spec h
    obtain ⟨c0, v0, r0, e1, _⟩ := hl.at g1
    rw [e1, key_tape] at g3
    have g3' : c0 = c ∧ v0 = v := by simpa using g3
    obtain ⟨rfl, rfl⟩ := g3'
    have hR : ((l.getD (atI l c0 v0).toNat []).getD 2 default).rows = r0 := by rw [e1]; rfl
    rw [poke_tape e1, hR, tapeOf_find]
    by_cases hk : c0 = c' ∧ v0 = v'
    · obtain ⟨rfl, rfl⟩ := hk
      rw [find_set_yes _ _ _ g1 g2 (by rw [key_tape]; simp), if_pos ⟨rfl, rfl⟩]
      unfold tapeOf
      rw [if_neg h, hR]
      rfl
    · have q : (decide (c0 = c') && decide (v0 = v')) = false := by simpa using hk
      rw [find_set_no _ _ _ (by rw [e1, key_tape]; exact q) (by rw [key_tape]; exact q), if_neg hk, tapeOf_find]
theorem put_mono {l rs : List (List D)} {c v c' v' : Int} (hl : goodT l) {r : List D} (h : found (tapeOf l c' v') r = true) : found (tapeOf (putT l c v rs) c' v') r = true := by
  rw [tape_put hl]
  split
  · rename_i hk
    obtain ⟨rfl, rfl⟩ := hk
    split
    · rename_i hn
      rw [tapeOf_find, at_no hn] at h
      cases h
    · exact merge_left rs _ h
  · exact h
theorem put_has {l rs : List (List D)} {c v : Int} (hl : goodT l) {r : List D} (h : r ∈ rs) : found (tapeOf (putT l c v rs) c v) r = true := by
  rw [tape_put hl, if_pos ⟨rfl, rfl⟩]
  split
  · split
    · rename_i h0
      rw [List.length_eq_zero_iff.1 h0] at h
      cases h
    · exact merge_right rs [] h
  · exact merge_right rs _ h
/-- Tapes put one by one. -/
def putAll (o l : List (List D)) : List (List D) := l.foldl (fun o t => putT o (t.getD 0 default).int (t.getD 1 default).int (t.getD 2 default).rows) o
theorem putAll_good : ∀ (l o : List (List D)), goodT o → goodT l → goodT (putAll o l)
  | [], o, ho, _ => ho
  | t :: l, o, ho, hl => by
    obtain ⟨c, v, rs, rfl, h1, h2, h3⟩ := hl t (List.mem_cons_self ..)
    exact putAll_good l _ (putT_good ho h1 h2 h3) fun x hx => hl x (List.mem_cons_of_mem _ hx)
theorem putAll_mono : ∀ (l o : List (List D)), goodT o → goodT l → ∀ {c v : Int} {r : List D}, found (tapeOf o c v) r = true → found (tapeOf (putAll o l) c v) r = true
  | [], o, ho, _, c, v, r, h => h
  | t :: l, o, ho, hl, c, v, r, h => by
    obtain ⟨c0, v0, rs, rfl, h1, h2, h3⟩ := hl t (List.mem_cons_self ..)
    exact putAll_mono l _ (putT_good ho h1 h2 h3) (fun x hx => hl x (List.mem_cons_of_mem _ hx)) (put_mono ho h)
theorem putAll_has : ∀ (l o : List (List D)), goodT o → goodT l → ∀ {c v : Int} {rs : List (List D)} {r : List D}, tapeR c v rs ∈ l → r ∈ rs → found (tapeOf (putAll o l) c v) r = true
  | t :: l, o, ho, hl, c, v, rs, r, hm, hr => by
    obtain ⟨c0, v0, r0, e, h1, h2, h3⟩ := hl t (List.mem_cons_self ..)
    have hg : goodT (putT o c0 v0 r0) := putT_good ho h1 h2 h3
    have hl' : goodT l := fun x hx => hl x (List.mem_cons_of_mem _ hx)
    have e2 : putAll o (t :: l) = putAll (putT o c0 v0 r0) l := by rw [e]; rfl
    rw [e2]
    rcases List.mem_cons.1 hm with hm | hm
    · rw [e] at hm
      have hm' : c = c0 ∧ v = v0 ∧ rs = r0 := by simpa [tapeR] using hm
      obtain ⟨rfl, rfl, rfl⟩ := hm'
      exact putAll_mono l _ hg hl' (put_has ho hr)
    · exact putAll_has l _ hg hl' hm hr
theorem newRow_none {a : List (List D)} {t : List D} (h : ∀ r ∈ (t.getD 2 default).rows, found (tapeOf a (t.getD 0 default).int (t.getD 1 default).int) r = true) : newRow a t = [] := by
  have : newT a t (t.getD 2 default).rows.length = [] := by
    unfold newT
    rw [List.take_length, List.filter_eq_nil_iff]
    intro r hr
    unfold keepR
    rw [h r hr]
    decide
  unfold newRow
  rw [this]
  rfl
theorem newR_none {a b : List (List D)} (h : ∀ t ∈ b, ∀ r ∈ (t.getD 2 default).rows, found (tapeOf a (t.getD 0 default).int (t.getD 1 default).int) r = true) : newR a b = [] := by
  unfold newR newTo
  rw [List.take_length, List.flatMap_eq_nil_iff]
  exact fun t ht => newRow_none (h t ht)
theorem newR_mem {a b : List (List D)} {x : List D} (h : x ∈ newR a b) : ∃ t ∈ b, x = tapeR (t.getD 0 default).int (t.getD 1 default).int (newT a t (t.getD 2 default).rows.length) := by
  unfold newR newTo at h
  rw [List.take_length] at h
  obtain ⟨t, ht, hx⟩ := List.mem_flatMap.1 h
  unfold newRow at hx
  split at hx
  · exact ⟨t, ht, List.mem_singleton.1 hx⟩
  · cases hx
theorem newR_good {a b : List (List D)} (hb : goodT b) : goodT (newR a b) := by
  intro x hx
  obtain ⟨t, ht, rfl⟩ := newR_mem hx
  obtain ⟨c, v, rs, rfl, h1, h2, h3⟩ := hb t ht
  refine ⟨c, v, _, rfl, fun r hr => ?_, h2, h3⟩
  unfold newT at hr
  exact h1 r (List.mem_of_mem_take (List.mem_filter.1 hr).1)
/-- All that was new is there, once it is put. -/
theorem newR_put {a b : List (List D)} (ha : goodT a) (hb : goodT b) : newR (putAll a (newR a b)) b = [] := by
  refine newR_none fun t ht r hr => ?_
  obtain ⟨c, v, rs, rfl, h1, h2, h3⟩ := hb t ht
  have hr' : r ∈ rs := hr
  show found (tapeOf (putAll a (newR a b)) c v) r = true
  by_cases hf : found (tapeOf a c v) r = true
  · exact putAll_mono _ _ ha (newR_good hb) hf
  · have hm : r ∈ newT a (tapeR c v rs) rs.length := by
      unfold newT
      refine List.mem_filter.2 ⟨by show r ∈ rs.take rs.length; rw [List.take_length]; exact hr', ?_⟩
      show (!found (tapeOf a c v) r) = true
      simpa using hf
    refine putAll_has (rs := newT a (tapeR c v rs) rs.length) _ _ ha (newR_good hb) ?_ hm
    unfold newR newTo
    rw [List.take_length]
    refine List.mem_flatMap.2 ⟨_, ht, ?_⟩
    unfold newRow
    rw [if_pos (show (newT a (tapeR c v rs) ((tapeR c v rs).getD 2 default).rows.length).length > 0 from List.length_pos_of_mem hm)]
    exact List.mem_singleton_self _
end
end Go.Proofs.Ytfmjpoibfpgfbaa.Ab
