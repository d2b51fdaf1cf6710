/- Tapes put, new reads, in plain Lean. No program in sight. -/
import Derived.Test.YtidjlboppokloaaNd
namespace Go.Proofs.Ytidjlboppokloaa.Ab
noncomputable section
open Go.RowKit
set_option linter.unusedVariables false
def flatTs (l : List (List D)) : Prop := ∀ t ∈ l, flatL (t.getD 2 default).rows
/-- Where a row that has p comes first. -/
def idxP (p : List D → Bool) (l : List (List D)) : Nat := (l.findIdx? p).getD l.length
theorem idx_found {p : List D → Bool} {l : List (List D)} {i : Int} (h0 : 0 ≤ i) (hi : i < l.length) (h : (l.take i.toNat).any p = false) (hp : p (l.getD i.toNat []) = true) : idxP p l = i.toNat := by
  have : l.findIdx? p = some i.toNat := by
    rw [List.findIdx?_eq_some_iff_getElem]
    refine ⟨by omega, ?_, fun j hj => ?_⟩
    · rw [show l[i.toNat] = l.getD i.toNat [] by simp [List.getD_eq_getElem?_getD, List.getElem?_eq_getElem (show i.toNat < l.length by omega)]]
      exact hp
    · have := List.any_eq_false.1 h l[j] (by
        rw [List.mem_iff_getElem]
        exact ⟨j, by rw [List.length_take]; omega, by rw [List.getElem_take]⟩)
      exact this
  unfold idxP
  rw [this]
  rfl
theorem idx_none {p : List D → Bool} {l : List (List D)} {i : Int} (h0 : 0 ≤ i) (hi : i ≤ l.length) (hn : decide (i < (l.length : Int)) = false) (h : (l.take i.toNat).any p = false) : idxP p l = i.toNat := by
  have hn' : ¬ i < (l.length : Int) := of_decide_eq_false hn
  rw [take_all h0 hi hn] at h
  have : l.findIdx? p = none := by
    rw [List.findIdx?_eq_none_iff]
    intro x hx
    simpa using List.any_eq_false.1 h x hx
  unfold idxP
  rw [this]
  show l.length = i.toNat
  omega
def tapeR (c v : Int) (rs : List (List D)) : List D := [.i c, .i v, .l rs]
def putT (l : List (List D)) (c v : Int) (rs : List (List D)) : List (List D) :=
  if atI l c v < 0 then
    (if rs.length = 0 then l else l.take (idxP (before (tapeR c v (mergeR [] rs))) l) ++ [tapeR c v (mergeR [] rs)] ++ l.drop (idxP (before (tapeR c v (mergeR [] rs))) l))
  else pokeRow l (atI l c v).toNat 2 [.l (mergeR ((l.getD (atI l c v).toNat []).getD 2 default).rows rs)]
def spPut (e er : TypeId) : FSpec where
  pre args := ∃ (l : List (List D)) (c v : Int) (rs : List (List D)), flatTs l ∧ flatL rs ∧ inK .i64 c ∧ inK .i64 v ∧ l.length + wRows l + (rs.length + wRows rs) ≤ 1048576 ∧ args = [argS e l, .val false [.i .i64 c], .val false [.i .i64 v], argS er rs]
  res args := match args with
    | [.val _ [.sl _ _ l], .val _ [.i _ c], .val _ [.i _ v], .val _ [.sl _ _ rs]] => .val false [.sl true e (putT l c v rs)]
    | _ => .none
theorem flat_row {l : List (List D)} (h : flatTs l) {k : Nat} (hk : k < l.length) : flatL ((l.getD k []).getD 2 default).rows :=
  h _ (List.mem_of_getElem? (show l[k]? = some (l.getD k []) by simp [List.getD_eq_getElem?_getD, List.getElem?_eq_getElem hk]))
theorem put_none {l rs : List (List D)} {c v : Int} (h : decide (atI l c v ≥ 0) = false) (h2 : ((rs.length : Int) == 0) = true) : l = putT l c v rs := by
  have h' : ¬ atI l c v ≥ 0 := of_decide_eq_false h
  unfold putT
  have h2' : (rs.length : Int) = 0 := by simpa using h2
  rw [if_pos (by omega), if_pos (by omega)]
theorem put_old {l rs : List (List D)} {c v : Int} (h : decide (atI l c v ≥ 0) = true) : pokeRow l (atI l c v).toNat 2 [.l (mergeR ((l.getD (atI l c v).toNat []).getD 2 default).rows rs)] = putT l c v rs := by
  have h' : atI l c v ≥ 0 := of_decide_eq_true h
  unfold putT
  rw [if_neg (by omega)]
theorem put_new {l rs : List (List D)} {c v : Int} {i : Nat} (h : decide (atI l c v ≥ 0) = false) (h2 : ((rs.length : Int) == 0) = false) (hp : idxP (before (tapeR c v (mergeR [] rs))) l = i) : [] ++ l.take i ++ [tapeR c v (mergeR [] rs)] ++ l.drop i = putT l c v rs := by
  have h' : ¬ atI l c v ≥ 0 := of_decide_eq_false h
  unfold putT
  have h2' : ¬ (rs.length : Int) = 0 := by simpa using h2
  rw [if_pos (by omega), if_neg (by omega), hp, List.nil_append]
theorem mergeR_mem {a b : List (List D)} {r : List D} (h : r ∈ mergeR a b) : r ∈ a ∨ r ∈ b := by
  suffices ∀ (b a : List (List D)), r ∈ mergeR a b → r ∈ a ∨ r ∈ b from this b a h
  intro b
  induction b with
  | nil => intro a h; exact .inl h
  | cons x b ih =>
    intro a h
    have h' : r ∈ mergeR (if found a x then a else a ++ [x]) b := h
    rcases ih _ h' with h1 | h1
    · split at h1
      · exact .inl h1
      · rcases List.mem_append.1 h1 with h2 | h2
        · exact .inl h2
        · exact .inr (by rw [List.mem_singleton.1 h2]; exact List.mem_cons_self ..)
    · exact .inr (List.mem_cons_of_mem _ h1)
theorem mergeR_size (a b : List (List D)) : (mergeR a b).length + wRows (mergeR a b) ≤ a.length + wRows a + (b.length + wRows b) := by
  have := mergeTo_size a b b.length (Nat.le_refl _)
  rwa [mergeTo, List.take_length] at this
theorem wf_sub {T : Tab} {e : TypeId} {a b : List (List D)} (h : WfD T (.l e) (.l a)) (hb : ∀ r ∈ b, r ∈ a) (hl : b.length ≤ maxLen) : WfD T (.l e) (.l b) := by
  cases h with
  | nil _ =>
    cases b with
    | nil => exact .nil _
    | cons r b => exact absurd (hb r (List.mem_cons_self ..)) (by simp)
  | sl _ ty _ h1 h2 h3 h4 =>
    refine .sl e ty b h1 hl (fun k row hk => ?_) (fun k j ct d row hk hct hd => ?_)
    · obtain ⟨k', hk'⟩ := List.getElem?_of_mem (hb row (List.mem_of_getElem? hk))
      exact h3 k' row hk'
    · obtain ⟨k', hk'⟩ := List.getElem?_of_mem (hb row (List.mem_of_getElem? hk))
      exact h4 k' j ct d row hk' hct hd
theorem wf_tape {T : Tab} {e : TypeId} {c v : Int} {rs : List (List D)} (hc : inK .i64 c) (hv : inK .i64 v) (hr : WfD T (.l e) (.l rs)) : WfRow T [.i .i64, .i .i64, .l e] (tapeR c v rs) := by
  refine ⟨rfl, fun j ct d hct hd => ?_⟩
  match j with
  | 0 =>
    obtain rfl : CT.i .i64 = ct := by simpa using hct
    obtain rfl : D.i c = d := by simpa [tapeR] using hd
    exact .int _ c hc
  | 1 =>
    obtain rfl : CT.i .i64 = ct := by simpa using hct
    obtain rfl : D.i v = d := by simpa [tapeR] using hd
    exact .int _ v hv
  | 2 =>
    obtain rfl : CT.l e = ct := by simpa using hct
    obtain rfl : D.l rs = d := by simpa [tapeR] using hd
    exact hr
  | k + 3 => simp at hct
theorem put_cut {l rs : List (List D)} {c v i : Int} (h : decide (atI l c v ≥ 0) = false) (h2 : ((rs.length : Int) == 0) = false) (hp : idxP (before (tapeR c v (mergeR [] rs))) l = i.toNat) : ([] ++ List.drop (Int.toNat 0) (List.take i.toNat l) ++ ([] ++ [[D.i c, D.i v, D.l (mergeR [] rs)]])) ++ List.drop i.toNat (List.take (l.length : Int).toNat l) = putT l c v rs := by
  rw [← put_new h h2 hp, Int.toNat_natCast, List.take_length]
  rfl
theorem before_no {x y y' : List D} (e : y' = y) (h : (!before x y') = true) : before x y = false := by subst e; simpa using h
theorem before_yes {x y y' : List D} (e : y' = y) (h : (!before x y') = false) : before x y = true := by subst e; simpa using h
/-! New reads -/
def keepR (a : List (List D)) (t : List D) (r : List D) : Bool := !found (tapeOf a (t.getD 0 default).int (t.getD 1 default).int) r
def newT (a : List (List D)) (t : List D) (j : Nat) : List (List D) := ((t.getD 2 default).rows.take j).filter (keepR a t)
def newRow (a : List (List D)) (t : List D) : List (List D) := if (newT a t (t.getD 2 default).rows.length).length > 0 then [tapeR (t.getD 0 default).int (t.getD 1 default).int (newT a t (t.getD 2 default).rows.length)] else []
def newTo (a b : List (List D)) (i : Nat) : List (List D) := (b.take i).flatMap (newRow a)
def newR (a b : List (List D)) : List (List D) := newTo a b b.length
def spNew (e : TypeId) : FSpec where
  pre args := ∃ a b : List (List D), flatTs a ∧ a.length + wRows a ≤ 1048576 ∧ b.length + wRows b ≤ 1048576 ∧ args = [argS e a, argS e b]
  res args := match args with
    | [.val _ [.sl _ _ a], .val _ [.sl _ _ b]] => .val false [.sl true e (newR a b)]
    | _ => .none
theorem newT_next {a : List (List D)} {t : List D} {j : Int} (h0 : 0 ≤ j) (hj : j < (t.getD 2 default).rows.length) : newT a t (j + 1).toNat = newT a t j.toNat ++ (if keepR a t ((t.getD 2 default).rows.getD j.toNat []) then [(t.getD 2 default).rows.getD j.toNat []] else []) := by
  have e : (j + 1).toNat = j.toNat + 1 := by omega
  unfold newT
  rw [e, List.take_add_one, row_at h0 hj, List.filter_append]
  congr 1
  generalize (t.getD 2 default).rows.getD j.toNat [] = r
  by_cases hk : keepR a t r
  · simp [hk]
  · simp [hk]
theorem newT_len (a : List (List D)) (t : List D) (j : Nat) : (newT a t j).length ≤ j := by
  unfold newT
  exact Nat.le_trans (List.length_filter_le _ _) (by rw [List.length_take]; omega)
theorem newT_yes {a : List (List D)} {t : List D} {j : Int} (h0 : 0 ≤ j) (hj : j < (t.getD 2 default).rows.length) {r r' : List D} (er : r = (t.getD 2 default).rows.getD j.toNat []) (er' : r' = (t.getD 2 default).rows.getD j.toNat []) (h : (!found (tapeOf a (t.getD 0 default).int (t.getD 1 default).int) r) = true) : newT a t j.toNat ++ [r'] = newT a t (j + 1).toNat := by
  subst er
  subst er'
  rw [newT_next h0 hj, if_pos (show keepR a t ((t.getD 2 default).rows.getD j.toNat []) = true from h)]
theorem newT_no {a : List (List D)} {t : List D} {j : Int} (h0 : 0 ≤ j) (hj : j < (t.getD 2 default).rows.length) {r : List D} (er : r = (t.getD 2 default).rows.getD j.toNat []) (h : (!found (tapeOf a (t.getD 0 default).int (t.getD 1 default).int) r) = false) : newT a t j.toNat = newT a t (j + 1).toNat := by
  subst er
  rw [newT_next h0 hj, if_neg (by unfold keepR; rw [h]; decide), List.append_nil]
theorem newTo_next {a b : List (List D)} {i : Int} (h0 : 0 ≤ i) (hi : i < b.length) : newTo a b (i + 1).toNat = newTo a b i.toNat ++ newRow a (b.getD i.toNat []) := by
  have e : (i + 1).toNat = i.toNat + 1 := by omega
  unfold newTo
  rw [e, List.take_add_one, row_at h0 hi, List.flatMap_append]
  simp
theorem newTo_len (a b : List (List D)) : ∀ k, k ≤ b.length → (newTo a b k).length ≤ k
  | 0, _ => by simp [newTo]
  | k + 1, hk => by
    have ih := newTo_len a b k (by omega)
    have h1 := newTo_next (a := a) (b := b) (i := (k : Int)) (by omega) (by omega)
    have e : ((k : Int) + 1).toNat = k + 1 := by omega
    rw [e, Int.toNat_natCast] at h1
    rw [h1, List.length_append]
    unfold newRow
    split
    · simp only [List.length_singleton]; omega
    · simp only [List.length_nil]; omega
theorem newTo_yes {a b : List (List D)} {i j : Int} (h0 : 0 ≤ i) (hi : i < b.length) (hj : j.toNat = (((b.getD i.toNat []).getD 2 default).rows).length) (h : decide (((newT a (b.getD i.toNat []) j.toNat).length : Int) > 0) = true) : newTo a b i.toNat ++ [tapeR ((b.getD i.toNat []).getD 0 default).int ((b.getD i.toNat []).getD 1 default).int (newT a (b.getD i.toNat []) j.toNat)] = newTo a b (i + 1).toNat := by
  have h' := of_decide_eq_true h
  rw [newTo_next h0 hi]
  unfold newRow
  rw [← hj, if_pos (by omega)]
theorem newTo_no {a b : List (List D)} {i j : Int} (h0 : 0 ≤ i) (hi : i < b.length) (hj : j.toNat = (((b.getD i.toNat []).getD 2 default).rows).length) (h : decide (((newT a (b.getD i.toNat []) j.toNat).length : Int) > 0) = false) : newTo a b i.toNat = newTo a b (i + 1).toNat := by
  have h' := of_decide_eq_false h
  rw [newTo_next h0 hi]
  unfold newRow
  rw [← hj, if_neg (by omega), List.append_nil]
theorem newTo_all {a b : List (List D)} {i : Int} (h0 : 0 ≤ i) (hi : i ≤ b.length) (h : decide (i < (b.length : Int)) = false) : newTo a b i.toNat = newR a b := by
  have : ¬ i < (b.length : Int) := of_decide_eq_false h
  unfold newR
  rw [show i.toNat = b.length by omega]
theorem flat_tapeOf {a : List (List D)} (h : flatTs a) (c v : Int) : flatL (tapeOf a c v) := by
  unfold tapeOf
  split
  · intro r hr; cases hr
  · have ha := atI_in a c v
    exact flat_row h (by omega)
theorem newTo_all' {e : TypeId} {a b : List (List D)} {i : Int} (h0 : 0 ≤ i) (hi : i ≤ b.length) (h : decide (i < (b.length : Int)) = false) : [CV.sl true e (newTo a b i.toNat)] = [CV.sl true e (newR a b)] := by
  rw [newTo_all h0 hi h]
theorem tapeOf_size {a : List (List D)} {c v : Int} (hw : a.length + wRows a ≤ 1048576) : (tapeOf a c v).length + wRows (tapeOf a c v) ≤ 1048576 := by
  unfold tapeOf
  split
  · simp [wRows]
  · have ha := atI_in a c v
    have hwr := wRow_le (a := a) (k := (atI a c v).toNat) (by omega)
    exact Nat.le_trans (wRows_cell (a.getD (atI a c v).toNat []) 2) (by omega)
end
end Go.Proofs.Ytidjlboppokloaa.Ab
