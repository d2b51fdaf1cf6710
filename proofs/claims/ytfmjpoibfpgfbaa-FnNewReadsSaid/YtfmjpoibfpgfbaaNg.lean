/- Drawn tapes, and what a put does to sizes and keys, in plain Lean. No program in sight. -/
import Derived.Test.YtfmjpoibfpgfbaaNf
namespace Go.Proofs.Ytfmjpoibfpgfbaa.Ab
noncomputable section
open Go.RowKit
set_option linter.unusedVariables false
theorem wRows_set : ∀ (l : List (List D)) (k : Nat) (r : List D), k < l.length → wRows (l.set k r) + wRow (l.getD k []) = wRows l + wRow r
  | x :: l, 0, r, _ => by simp only [List.set_cons_zero, wRows, List.getD_cons_zero]; omega
  | x :: l, k + 1, r, h => by
    have := wRows_set l k r (by simpa using h)
    simp only [List.set_cons_succ, wRows, List.getD_cons_succ]
    omega
theorem wRows_split (l : List (List D)) (k : Nat) : wRows (l.take k) + wRows (l.drop k) = wRows l := by
  rw [← wRows_append, List.take_append_drop]
theorem wRow_tape (c v : Int) (rs : List (List D)) : wRow (tapeR c v rs) = rs.length + wRows rs := by
  simp only [tapeR, wRow, wD]
  omega
/-- Rows that are tapes of plain reads. -/
def goodT (l : List (List D)) : Prop := ∀ t ∈ l, ∃ c v rs, t = tapeR c v rs ∧ flatL rs ∧ inK .i64 c ∧ inK .i64 v
theorem goodT.flat {l : List (List D)} (h : goodT l) : flatTs l := by
  intro t ht
  obtain ⟨c, v, rs, rfl, hr, _⟩ := h t ht
  exact hr
theorem goodT.at {l : List (List D)} (h : goodT l) {k : Nat} (hk : k < l.length) : ∃ c v rs, l.getD k [] = tapeR c v rs ∧ flatL rs ∧ inK .i64 c ∧ inK .i64 v :=
  h _ (List.mem_of_getElem? (show l[k]? = some (l.getD k []) by simp [List.getD_eq_getElem?_getD, List.getElem?_eq_getElem hk]))
theorem flat_merge {a b : List (List D)} (ha : flatL a) (hb : flatL b) : flatL (mergeR a b) := by
  intro r hr
  rcases mergeR_mem hr with h | h
  · exact ha r h
  · exact hb r h
theorem poke_tape {l : List (List D)} {k : Nat} {c v : Int} {rs m : List (List D)} (h : l.getD k [] = tapeR c v rs) : pokeRow l k 2 [.l m] = l.set k (tapeR c v m) := by
  unfold pokeRow
  rw [h]
  rfl
theorem putT_good {l rs : List (List D)} {c v : Int} (hl : goodT l) (hr : flatL rs) (hc : inK .i64 c) (hv : inK .i64 v) : goodT (putT l c v rs) := by
  have ha := atI_in l c v
  unfold putT
  split
  · split
    · exact hl
    · intro t ht
      rcases List.mem_append.1 ht with ht | ht
      · rcases List.mem_append.1 ht with ht | ht
        · exact hl t (List.mem_of_mem_take ht)
        · exact ⟨c, v, _, List.mem_singleton.1 ht, flat_merge (fun r h => by cases h) hr, hc, hv⟩
      · exact hl t (List.mem_of_mem_drop ht)
  · obtain ⟨c0, v0, r0, h1, h2, h3, h4⟩ := hl.at (k := (atI l c v).toNat) (by omega)
    rw [poke_tape h1]
    intro t ht
    rcases List.mem_or_eq_of_mem_set ht with ht | ht
    · exact hl t ht
    · refine ⟨c0, v0, _, ht, flat_merge ?_ hr, h3, h4⟩
      rw [h1]
      exact h2
theorem putT_size {l rs : List (List D)} {c v : Int} (hl : goodT l) : (putT l c v rs).length + wRows (putT l c v rs) ≤ l.length + wRows l + 1 + (rs.length + wRows rs) := by
  have ha := atI_in l c v
  unfold putT
  split
  · split
    · omega
    · have hm := mergeR_size [] rs
      have hs := wRows_split l (idxP (before (tapeR c v (mergeR [] rs))) l)
      have h0 : ([] : List (List D)).length + wRows [] = 0 := rfl
      simp only [List.length_append, List.length_take, List.length_drop, List.length_singleton, wRows_append, wRows_one, wRow_tape]
      omega
  · obtain ⟨c0, v0, r0, h1, _⟩ := hl.at (k := (atI l c v).toNat) (by omega)
    have hs := wRows_set l (atI l c v).toNat (tapeR c0 v0 (mergeR r0 rs)) (by omega)
    have hm := mergeR_size r0 rs
    rw [poke_tape h1, h1]
    rw [h1, wRow_tape, wRow_tape] at hs
    show (l.set (atI l c v).toNat (tapeR c0 v0 (mergeR r0 rs))).length + wRows (l.set (atI l c v).toNat (tapeR c0 v0 (mergeR r0 rs))) ≤ _
    rw [List.length_set]
    omega
/-! Tapes drawn one by one: the tapes so far, the cursor -/
structure Dr where
  out : List (List D)
  i : Int
  h : Int
def drC (rows : List (List D)) (d : Dr) : Int := IntKind.i64.wrap (1 + belowR rows d.i d.h 5)
def drV (rows : List (List D)) (d : Dr) : Int := IntKind.i64.wrap (1 + belowR rows (curI rows d.i 1) (curH d.h 1) 3)
def drR (rows : List (List D)) (d : Dr) : List (List D) := tp16 rows (curI rows d.i 2) (curH d.h 2) (belowR rows (curI rows d.i 2) (curH d.h 2) 4)
def drN (rows : List (List D)) (d : Dr) : Nat := 1 + 4 * (belowR rows (curI rows d.i 2) (curH d.h 2) 4).toNat
def drNext (rows : List (List D)) (d : Dr) : Dr := ⟨putT d.out (drC rows d) (drV rows d) (drR rows d), curI rows (curI rows d.i 2) (drN rows d), curH (curH d.h 2) (drN rows d)⟩
def drK (rows : List (List D)) (i h : Int) : Nat → Dr
  | 0 => ⟨[], byteI rows i, byteH h⟩
  | k + 1 => drNext rows (drK rows i h k)
theorem below4 {rows : List (List D)} {i h : Int} : 0 ≤ belowR rows i h 4 ∧ belowR rows i h 4 < 4 := belowR_in ⟨by decide, by decide⟩
theorem drC_in (rows : List (List D)) (d : Dr) : 1 ≤ drC rows d ∧ drC rows d ≤ 5 := by
  have := belowR_in (rows := rows) (i := d.i) (h := d.h) (n := 5) ⟨by decide, by decide⟩
  unfold drC
  rw [wrap_i64_in (by omega) (by omega)]
  omega
theorem drV_in (rows : List (List D)) (d : Dr) : 1 ≤ drV rows d ∧ drV rows d ≤ 3 := by
  have := belowR_in (rows := rows) (i := curI rows d.i 1) (h := curH d.h 1) (n := 3) ⟨by decide, by decide⟩
  unfold drV
  rw [wrap_i64_in (by omega) (by omega)]
  omega
theorem small_inK {x : Int} (h : 1 ≤ x ∧ x ≤ 5) : inK .i64 x := by
  have h1 : IntKind.i64.min = -9223372036854775808 := by decide
  have h2 : IntKind.i64.max = 9223372036854775807 := by decide
  rw [inK, h1, h2]
  omega
theorem drR_w (rows : List (List D)) (d : Dr) : (drR rows d).length + wRows (drR rows d) ≤ 8 ∧ flatL (drR rows d) := by
  have h := below4 (rows := rows) (i := curI rows d.i 2) (h := curH d.h 2)
  have h1 := tp16_len rows (curI rows d.i 2) (curH d.h 2) (belowR rows (curI rows d.i 2) (curH d.h 2) 4)
  have h2 := tp16_w rows (curI rows d.i 2) (curH d.h 2) (belowR rows (curI rows d.i 2) (curH d.h 2) 4)
  refine ⟨?_, tp16_flat _ _ _ _⟩
  unfold drR
  omega
theorem drK_ok {rows : List (List D)} {i h : Int} (ok : CurOk rows i) : ∀ k, CurOk rows (drK rows i h k).i ∧ goodT (drK rows i h k).out ∧ (drK rows i h k).out.length + wRows (drK rows i h k).out ≤ 9 * k
  | 0 => ⟨byteI_ok ok, (fun t ht => by cases ht), Nat.le_refl _⟩
  | k + 1 => by
    obtain ⟨h1, h2, h3⟩ := drK_ok (h := h) ok k
    have hr := drR_w rows (drK rows i h k)
    have hc := drC_in rows (drK rows i h k)
    have hv := drV_in rows (drK rows i h k)
    have hs := putT_size (rs := drR rows (drK rows i h k)) (c := drC rows (drK rows i h k)) (v := drV rows (drK rows i h k)) h2
    refine ⟨curOk (curOk h1 2) _, putT_good h2 hr.2 (small_inK (by omega)) (small_inK (by omega)), ?_⟩
    show (putT _ _ _ _).length + wRows (putT _ _ _ _) ≤ _
    omega
def drE (rows : List (List D)) (i h : Int) : Dr := drK rows i h (belowR rows i h 5).toNat
def dr26 (rows : List (List D)) (i h : Int) : List (List D) :=
  if ((drE rows i h).out.length : Int) > 1 then (if belowR rows (drE rows i h).i (drE rows i h).h 8 = 0 then pokeRow (drE rows i h).out 0 0 [.i 7] else (drE rows i h).out) else (drE rows i h).out
def dr26I (rows : List (List D)) (i h : Int) : Int := if ((drE rows i h).out.length : Int) > 1 then byteI rows (drE rows i h).i else (drE rows i h).i
def dr26H (rows : List (List D)) (i h : Int) : Int := if ((drE rows i h).out.length : Int) > 1 then byteH (drE rows i h).h else (drE rows i h).h
def spDr26 (e te : TypeId) : FSpec where
  pre := preC e
  bx := true
  res args := match args with
    | [.tup [(_, [.sl _ _ rows, .i _ i, .i _ h])]] => .val false [.sl true te (dr26 rows i h)]
    | _ => .none
  upd args := match args with
    | [.tup [(_, [.sl _ _ rows, .i _ i, .i _ h])]] => curC e rows (dr26I rows i h) (dr26H rows i h)
    | _ => []
theorem drK_next (rows : List (List D)) (i h : Int) {z : Int} (h0 : 0 ≤ z) : drNext rows (drK rows i h z.toNat) = drK rows i h (z + 1).toNat := by
  rw [show (z + 1).toNat = z.toNat + 1 by omega]
  rfl
theorem snapDr (f : Dr → Int → Snap) {d d' : Dr} {x y : Int} (h : d = d') (h2 : x = y) : f d x = f d' y := by rw [h, h2]
theorem drE_at {rows : List (List D)} {i h z : Int} (h1 : z ≤ belowR rows i h 5) (h2 : decide (z < belowR rows i h 5) = false) : drK rows i h z.toNat = drE rows i h := by
  have : ¬ z < belowR rows i h 5 := of_decide_eq_false h2
  unfold drE
  rw [show z = belowR rows i h 5 by omega]
theorem resCur {e : TypeId} {rows : List (List D)} {a b c d : Int} (h : a = b ∧ c = d) : [CV.sl false e rows, CV.i .i64 a, CV.i .i64 c] = curC e rows b d := by rw [h.1, h.2]
theorem dr26_few {rows : List (List D)} {i h : Int} (h1 : decide (((drE rows i h).out.length : Int) > 1) = false) : (drE rows i h).out = dr26 rows i h ∧ (drE rows i h).i = dr26I rows i h ∧ (drE rows i h).h = dr26H rows i h := by
  have := of_decide_eq_false h1
  unfold dr26 dr26I dr26H
  rw [if_neg this, if_neg this, if_neg this]
  exact ⟨rfl, rfl, rfl⟩
theorem dr26_no {rows : List (List D)} {i h : Int} (h1 : decide (((drE rows i h).out.length : Int) > 1) = true) (h2 : decide (belowR rows (drE rows i h).i (drE rows i h).h 8 = 0) = false) : (drE rows i h).out = dr26 rows i h ∧ byteI rows (drE rows i h).i = dr26I rows i h ∧ byteH (drE rows i h).h = dr26H rows i h := by
  have g1 := of_decide_eq_true h1
  have g2 := of_decide_eq_false h2
  unfold dr26 dr26I dr26H
  rw [if_pos g1, if_pos g1, if_pos g1, if_neg g2]
  exact ⟨rfl, rfl, rfl⟩
theorem dr26_yes {rows : List (List D)} {i h : Int} (h1 : decide (((drE rows i h).out.length : Int) > 1) = true) (h2 : decide (belowR rows (drE rows i h).i (drE rows i h).h 8 = 0) = true) : pokeRow (drE rows i h).out 0 0 [.i 7] = dr26 rows i h ∧ byteI rows (drE rows i h).i = dr26I rows i h ∧ byteH (drE rows i h).h = dr26H rows i h := by
  have g1 := of_decide_eq_true h1
  have g2 := of_decide_eq_true h2
  unfold dr26 dr26I dr26H
  rw [if_pos g1, if_pos g1, if_pos g1, if_pos g2]
  exact ⟨rfl, rfl, rfl⟩
end
end Go.Proofs.Ytfmjpoibfpgfbaa.Ab
