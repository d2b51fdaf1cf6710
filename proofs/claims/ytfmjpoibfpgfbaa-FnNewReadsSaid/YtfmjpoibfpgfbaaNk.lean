/- Drawn tapes have keys that differ; sizes of new reads and of puts, in plain Lean. No program in sight. -/
import Derived.Test.YtfmjpoibfpgfbaaNj
import Derived.Test.YtfmjpoibfpgfbaaNi
namespace Go.Proofs.Ytfmjpoibfpgfbaa.Ab
noncomputable section
open Go.RowKit
set_option linter.unusedVariables false
def keyOf (t : List D) : Int × Int := ((t.getD 0 default).int, (t.getD 1 default).int)
def keysD (l : List (List D)) : Prop := (l.map keyOf).Nodup
def keysS (l : List (List D)) : Prop := ∀ t ∈ l, (t.getD 0 default).int ≤ 5
theorem keyT_of {c v : Int} {t : List D} (h : keyT c v t = true) : keyOf t = (c, v) := by
  unfold keyT at h
  rw [Bool.and_eq_true, decide_eq_true_eq, decide_eq_true_eq] at h
  unfold keyOf
  rw [h.1, h.2]
theorem map_set_same {l : List (List D)} {k : Nat} {r : List D} (h : keyOf r = keyOf (l.getD k [])) (hk : k < l.length) : (l.set k r).map keyOf = l.map keyOf := by
  rw [List.map_set, h]
  refine List.ext_getElem? fun i => ?_
  rw [List.getElem?_set]
  split
  · rename_i e
    subst e
    rw [if_pos (by simpa using hk), List.getElem?_map, List.getElem?_eq_getElem hk]
    simp [List.getD_eq_getElem?_getD, List.getElem?_eq_getElem hk]
  · rfl
theorem putT_keys {l rs : List (List D)} {c v : Int} (hl : goodT l) (hk : keysD l) (hs : keysS l) (hc : c ≤ 5) : keysD (putT l c v rs) ∧ keysS (putT l c v rs) := by
  unfold putT
  split
  · rename_i hn
    split
    · exact ⟨hk, hs⟩
    · generalize idxP (before (tapeR c v (mergeR [] rs))) l = p
      refine ⟨?_, fun t ht => ?_⟩
      · unfold keysD
        rw [List.append_assoc]
        have hp : (l.take p ++ ([tapeR c v (mergeR [] rs)] ++ l.drop p)).map keyOf = (l.take p).map keyOf ++ (c, v) :: (l.drop p).map keyOf := by
          rw [List.map_append]
          rfl
        rw [hp, List.Perm.nodup_iff List.perm_middle, List.nodup_cons, ← List.map_append, List.take_append_drop]
        refine ⟨fun hm => ?_, hk⟩
        obtain ⟨t, ht, e⟩ := List.mem_map.1 hm
        have := List.find?_eq_none.1 (at_no hn) t ht
        apply this
        unfold keyT
        unfold keyOf at e
        have e1 := congrArg Prod.fst e
        have e2 := congrArg Prod.snd e
        simp only at e1 e2
        rw [e1, e2]
        simp
      · rcases List.mem_append.1 ht with ht | ht
        · rcases List.mem_append.1 ht with ht | ht
          · exact hs t (List.mem_of_mem_take ht)
          · rw [List.mem_singleton.1 ht]
            exact hc
        · exact hs t (List.mem_of_mem_drop ht)
  · rename_i hn
    obtain ⟨g1, _, _⟩ := at_spec hn
    obtain ⟨c0, v0, r0, e1, _⟩ := hl.at g1
    rw [poke_tape e1]
    refine ⟨?_, fun t ht => ?_⟩
    · unfold keysD
      rw [map_set_same (by rw [e1]; rfl) g1]
      exact hk
    · rcases List.mem_or_eq_of_mem_set ht with ht | ht
      · exact hs t ht
      · have := hs _ (List.mem_of_getElem? (show l[(atI l c v).toNat]? = some (l.getD (atI l c v).toNat []) by simp [List.getD_eq_getElem?_getD, List.getElem?_eq_getElem g1]))
        rw [e1] at this
        rw [ht]
        exact this
theorem drK_keys {rows : List (List D)} {i h : Int} (ok : CurOk rows i) : ∀ k, keysD (drK rows i h k).out ∧ keysS (drK rows i h k).out
  | 0 => ⟨List.nodup_nil, fun t ht => by cases ht⟩
  | k + 1 => by
    obtain ⟨h1, h2⟩ := drK_keys (h := h) ok k
    exact putT_keys (drK_ok (h := h) ok k).2.1 h1 h2 (drC_in rows (drK rows i h k)).2
theorem poke_cell {l : List (List D)} {c v : Int} {rs : List (List D)} (h : l.getD 0 [] = tapeR c v rs) : pokeRow l 0 0 [.i 7] = l.set 0 (tapeR 7 v rs) := by
  unfold pokeRow
  rw [h]
  rfl
theorem set_head_keys {l : List (List D)} {c v : Int} {rs : List (List D)} (h : l.getD 0 [] = tapeR c v rs) (h0 : 0 < l.length) (hk : keysD l) (hs : keysS l) : keysD (l.set 0 (tapeR 7 v rs)) := by
  cases l with
  | nil => exact absurd h0 (Nat.lt_irrefl _)
  | cons x l =>
    unfold keysD at hk ⊢
    rw [List.set_cons_zero, List.map_cons, List.nodup_cons]
    rw [List.map_cons, List.nodup_cons] at hk
    refine ⟨fun hm => ?_, hk.2⟩
    obtain ⟨t, ht, e⟩ := List.mem_map.1 hm
    have h5 := hs t (List.mem_cons_of_mem _ ht)
    have e1 := congrArg Prod.fst e
    have e2 : (t.getD 0 default).int = 7 := e1
    omega
/-- What is known of drawn tapes. -/
theorem dr26_ok {rows : List (List D)} {i h : Int} (ok : CurOk rows i) : goodT (dr26 rows i h) ∧ keysD (dr26 rows i h) ∧ (dr26 rows i h).length + wRows (dr26 rows i h) ≤ 36 ∧ CurOk rows (dr26I rows i h) := by
  have hb := belowR_in (rows := rows) (i := i) (h := h) (n := 5) ⟨by decide, by decide⟩
  obtain ⟨k1, k2, k3⟩ := drK_ok (h := h) ok (belowR rows i h 5).toNat
  obtain ⟨k4, k5⟩ := drK_keys (h := h) ok (belowR rows i h 5).toNat
  have q1 : CurOk rows (drE rows i h).i := k1
  have q2 : goodT (drE rows i h).out := k2
  have q3 : (drE rows i h).out.length + wRows (drE rows i h).out ≤ 36 := by
    show (drK rows i h _).out.length + wRows (drK rows i h _).out ≤ 36
    omega
  have q4 : keysD (drE rows i h).out := k4
  have q5 : keysS (drE rows i h).out := k5
  have hI : CurOk rows (dr26I rows i h) := by
    unfold dr26I
    split
    · exact byteI_ok q1
    · exact q1
  unfold dr26
  split
  · rename_i hlen
    split
    · obtain ⟨c, v, rs, e, f1, f2, f3⟩ := q2.at (k := 0) (by omega)
      rw [poke_cell e]
      refine ⟨fun t ht => ?_, set_head_keys e (by omega) q4 q5, ?_, hI⟩
      · rcases List.mem_or_eq_of_mem_set ht with ht | ht
        · exact q2 t ht
        · refine ⟨7, v, rs, ht, f1, ?_, f3⟩
          have h1 : IntKind.i64.min = -9223372036854775808 := by decide
          have h2 : IntKind.i64.max = 9223372036854775807 := by decide
          rw [inK, h1, h2]
          omega
      · have hs := wRows_set (drE rows i h).out 0 (tapeR 7 v rs) (by omega)
        rw [e, wRow_tape, wRow_tape] at hs
        rw [List.length_set]
        omega
    · exact ⟨q2, q4, q3, hI⟩
  · exact ⟨q2, q4, q3, hI⟩
theorem find_self : ∀ {l : List (List D)}, keysD l → ∀ {t : List D}, t ∈ l → l.find? (keyT (t.getD 0 default).int (t.getD 1 default).int) = some t
  | x :: l, hk, t, ht => by
    unfold keysD at hk
    rw [List.map_cons, List.nodup_cons] at hk
    by_cases hx : keyT (t.getD 0 default).int (t.getD 1 default).int x = true
    · rw [List.find?_cons_of_pos hx]
      rcases List.mem_cons.1 ht with rfl | ht
      · rfl
      · exact absurd (List.mem_map.2 ⟨t, ht, (keyT_of hx).symm⟩) hk.1
    · rw [List.find?_cons_of_neg hx]
      rcases List.mem_cons.1 ht with rfl | ht
      · exact absurd (by unfold keyT; simp) hx
      · exact find_self hk.2 ht
/-- Tapes of keys that differ have no new reads for themselves. -/
theorem newR_self {a : List (List D)} (h : keysD a) : newR a a = [] := by
  refine newR_none fun t ht r hr => ?_
  rw [tapeOf_find, find_self h ht]
  exact found_mem hr
theorem filter_w (p : List D → Bool) : ∀ l : List (List D), (l.filter p).length + wRows (l.filter p) ≤ l.length + wRows l
  | [] => Nat.le_refl _
  | x :: l => by
    have := filter_w p l
    rw [List.filter_cons]
    split
    · simp only [List.length_cons, wRows]; omega
    · simp only [List.length_cons, wRows]; omega
theorem newRow_w {a : List (List D)} {t : List D} (ht : ∃ c v rs, t = tapeR c v rs) : (newRow a t).length + wRows (newRow a t) ≤ 1 + wRow t := by
  obtain ⟨c, v, rs, rfl⟩ := ht
  unfold newRow
  split
  · rw [wRows_one, wRow_tape, wRow_tape]
    have := filter_w (keepR a (tapeR c v rs)) (rs.take rs.length)
    rw [List.take_length] at this
    have e : newT a (tapeR c v rs) ((tapeR c v rs).getD 2 default).rows.length = rs.filter (keepR a (tapeR c v rs)) := by
      show (rs.take rs.length).filter _ = _
      rw [List.take_length]
    rw [e, List.length_singleton]
    have h2 := filter_w (keepR a (tapeR c v rs)) rs
    omega
  · simp [wRows]
theorem newR_w {a : List (List D)} : ∀ {b : List (List D)}, goodT b → (newR a b).length + wRows (newR a b) ≤ b.length + wRows b := by
  intro b hb
  have e : newR a b = b.flatMap (newRow a) := by
    unfold newR newTo
    rw [List.take_length]
  rw [e]
  clear e
  induction b with
  | nil => exact Nat.le_refl _
  | cons t b ih =>
    have h1 := ih fun x hx => hb x (List.mem_cons_of_mem _ hx)
    obtain ⟨c, v, rs, e, _⟩ := hb t (List.mem_cons_self ..)
    have h2 := newRow_w (a := a) ⟨c, v, rs, e⟩
    rw [List.flatMap_cons, List.length_append, wRows_append]
    simp only [List.length_cons, wRows]
    omega
theorem putAll_w : ∀ (l o : List (List D)), goodT o → goodT l → (putAll o l).length + wRows (putAll o l) ≤ o.length + wRows o + (l.length + wRows l)
  | [], o, _, _ => by show o.length + wRows o ≤ _; omega
  | t :: l, o, ho, hl => by
    obtain ⟨c, v, rs, rfl, h1, h2, h3⟩ := hl t (List.mem_cons_self ..)
    have hs := putT_size (rs := rs) (c := c) (v := v) ho
    have := putAll_w l _ (putT_good (rs := rs) ho h1 h2 h3) fun x hx => hl x (List.mem_cons_of_mem _ hx)
    have e : putAll o (tapeR c v rs :: l) = putAll (putT o c v rs) l := rfl
    rw [e]
    simp only [List.length_cons, wRows, wRow_tape]
    omega
def putTo (o l : List (List D)) (i : Nat) : List (List D) := putAll o (l.take i)
theorem putTo_next {o l : List (List D)} {i : Int} (h0 : 0 ≤ i) (hi : i < l.length) : putTo o l (i + 1).toNat = putT (putTo o l i.toNat) ((l.getD i.toNat []).getD 0 default).int ((l.getD i.toNat []).getD 1 default).int ((l.getD i.toNat []).getD 2 default).rows := by
  have e : (i + 1).toNat = i.toNat + 1 := by omega
  unfold putTo putAll
  rw [e, List.take_add_one, row_at h0 hi, List.foldl_append]
  rfl
end
end Go.Proofs.Ytfmjpoibfpgfbaa.Ab
