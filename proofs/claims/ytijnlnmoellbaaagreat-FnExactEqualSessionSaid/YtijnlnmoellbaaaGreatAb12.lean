/- Slices built, made, appended to. No program in sight. -/
import Derived.Test.YtijnlnmoellbaaaGreatAb11
namespace Go.Proofs.YtijnlnmoellbaaaGreat.Ab
open Go.RowKit
variable {P : Program} {T : Tab} {W : Base} {N : Nat}

/-- Rows of a slice, one operand each, shared. -/
def rowsGo (cts : List CT) (k : List (List D) → Pg) : List (Nat × Operand) → Nat → List (List D) → Pg
  | [], _, acc => k acc
  | (j, x) :: r, i, acc => if j = i then rdv x fun sv => match sv with
      | .val _ cs => pubs cs fun cs' => match toDs cts cs' with
        | some ds => rowsGo cts k r (i + 1) (acc ++ [ds])
        | none => .fail
      | _ => .fail
    else .fail
/-- The first rows of a row of cells read as data. -/
def RowsR (T : Tab) (E : Env) (cts : List CT) (rows : List (List D)) (us : List Value) : Prop :=
  (∀ (k : Nat) (row : List D), rows[k]? = some row → row.length = cts.length) ∧
  ∀ (k j : Nat) ct d (row : List D), rows[k]? = some row → cts[j]? = some ct → row[j]? = some d → ∃ u, us[k * cts.length + j]? = some u ∧ RdR T E.w E.X ct u d
theorem RowsR.same {E E' : Env} {cts : List CT} {rows : List (List D)} {us : List Value} (h : RowsR T E cts rows us) (s : Step E E') : RowsR T E' cts rows us :=
  ⟨h.1, fun k j ct d row a b c => let ⟨u, hu, hr⟩ := h.2 k j ct d row a b c; ⟨u, hu, hr.move s.keep s.less⟩⟩
theorem pubs_val {E : Env} (h : Rel T W N E) {v : Value} {ag : Bool} {cs : List CV} {k : List CV → Pg} {Q : St → Prop} (hv : RelSV T W E (.slot N) v (.val ag cs)) (hf : cs.all CV.free = true) (hw : (pubs cs k).wp Q E.σ) :
    ∃ E' cs' us, Rel T W N E' ∧ Same E E' ∧ CellsR T W E' (.slot N) 0 cs' us ∧ cs'.all CV.set = true ∧ cs'.all CV.free = true ∧ v.cells = us.toArray ∧ us.length = cs.length ∧ (ag = true → v = .agg us.toArray) ∧ (ag = false → us = [v]) ∧ (k cs').wp Q E'.σ := by
  cases ag with
  | true =>
    obtain ⟨us, rfl, h2⟩ := hv.cellsR
    obtain ⟨E', cs', r1, s1, c1, t1, f1, w1⟩ := pubs_sound h h2 hf hw
    exact ⟨E', cs', us, r1, s1, c1, t1, f1, rfl, h2.1.symm, fun _ => rfl, (fun h => by cases h), w1⟩
  | false =>
    obtain ⟨c, rfl, h2⟩ := hv
    have hc : CellsR T W E (.slot N) 0 [c] [v] := ⟨rfl, fun i c' u hc hu => by
      cases i with
      | zero =>
        obtain rfl := Option.some.inj hc
        obtain rfl := Option.some.inj hu
        exact h2
      | succ i => cases hc⟩
    obtain ⟨E', cs', r1, s1, c1, t1, f1, w1⟩ := pubs_sound h hc hf hw
    have hl := c1.1
    match cs', hl with
    | [c'], _ => exact ⟨E', [c'], [v], r1, s1, c1, t1, f1, CellsR.cells1 c1 (by simpa using t1), rfl, (fun h => by cases h), fun _ => rfl, w1⟩
theorem rowsGo_sound {cts : List CT} {k : List (List D) → Pg} {Q : St → Prop} : ∀ {parts : List (Nat × Operand)} {i : Nat} {acc : List (List D)} {E : Env} {us : List Value}, Rel T W N E → acc.length = i → RowsR T E cts acc us →
    (i + parts.length) * cts.length ≤ us.length → (rowsGo cts k parts i acc).wp Q E.σ →
    ∃ E' acc' us', Rel T W N E' ∧ Same E E' ∧ acc'.length = i + parts.length ∧ us'.length = us.length ∧ RowsR T E' cts acc' us' ∧
      Instr.fill (fun i => some (i * cts.length, cts.length)) us.toArray (parts.map fun (i, x) => (i, E.a.eval x)) = some us'.toArray ∧ (k acc').wp Q E'.σ
  | [], i, acc, E, us, h, hi, hr, _, hw => ⟨E, acc, us, h, .refl E, hi, rfl, hr, rfl, hw⟩
  | (j, x) :: r, i, acc, E, us, h, hi, hr, hlen, hw => by
    simp only [rowsGo] at hw
    split at hw
    · rename_i hj
      subst hj
      obtain ⟨sv, h1, f1, h3⟩ := rdv_sound h hw (.slot N)
      split at h3
      · rename_i ag cs
        obtain ⟨E1, cs', vs, r1, s1, c1, t1, g1, e1, el, _, _, w1⟩ := pubs_val h h1 (cellsFree_of_free f1) h3
        split at w1
        · rename_i ds hds
          obtain ⟨d1, d2, d3⟩ := toDs_spec hds
          have hvl : vs.length = cts.length := by rw [← c1.1]; exact d1
          have hin : j * cts.length + cts.length ≤ us.length := by
            have : (j + (r.length + 1)) * cts.length ≤ us.length := hlen
            have h2 : (j + 1) * cts.length ≤ (j + (r.length + 1)) * cts.length := Nat.mul_le_mul_right _ (by omega)
            rw [Nat.succ_mul] at h2
            omega
          have hrows : RowsR T E1 cts (acc ++ [ds]) (overlay us (j * cts.length) vs) := by
            refine ⟨fun k row hk => ?_, fun k j' ct d row hk hct hd => ?_⟩
            · rw [List.getElem?_append] at hk
              split at hk
              · exact hr.1 k row hk
              · rename_i hge
                have : k - acc.length = 0 := by
                  rcases Nat.lt_or_ge (k - acc.length) 1 with h' | h'
                  · omega
                  · rw [List.getElem?_eq_none (by simpa using h')] at hk; cases hk
                rw [this] at hk
                obtain rfl := Option.some.inj hk
                exact d2
            · have hj' : j' < cts.length := (List.getElem?_eq_some_iff.1 hct).1
              rw [overlay_get _ _ _ (by omega)]
              rw [List.getElem?_append] at hk
              split at hk
              · rename_i hlt
                have hb : k * cts.length + j' < j * cts.length := by
                  have : (k + 1) * cts.length ≤ j * cts.length := Nat.mul_le_mul_right _ (by omega)
                  rw [Nat.succ_mul] at this
                  omega
                rw [if_neg (by omega)]
                obtain ⟨u, hu, hru⟩ := hr.2 k j' ct d row hk hct hd
                exact ⟨u, hu, hru.move s1.step.keep s1.step.less⟩
              · rename_i hge
                have hz : k - acc.length = 0 := by
                  rcases Nat.lt_or_ge (k - acc.length) 1 with h' | h'
                  · omega
                  · rw [List.getElem?_eq_none (by simpa using h')] at hk; cases hk
                rw [hz] at hk
                obtain rfl := Option.some.inj hk
                have hkj : k = j := by omega
                subst hkj
                rw [if_pos ⟨by omega, by omega⟩, show k * cts.length + j' - k * cts.length = j' by omega]
                have hjc : j' < cs'.length := by omega
                have hju : j' < vs.length := by omega
                refine ⟨vs[j'], List.getElem?_eq_getElem hju, ?_⟩
                exact (c1.2 j' cs'[j'] vs[j'] (List.getElem?_eq_getElem hjc) (List.getElem?_eq_getElem hju)).rdR (d3 j' ct _ d hct (List.getElem?_eq_getElem hjc) hd)
          obtain ⟨E2, acc', us', r2, s2, l2, l3, q2, e2, w2⟩ := rowsGo_sound (i := j + 1) r1 (by simp [hi]) hrows (by
            rw [overlay_length _ _ _ (by omega)]
            rw [show j + 1 + r.length = j + (r.length + 1) by omega]; exact hlen) w1
          refine ⟨E2, acc', us', r2, s1.trans s2, by rw [l2]; simp; omega, by rw [l3, overlay_length _ _ _ (by omega)], q2, ?_, w2⟩
          have hsz : (E.a.eval x).cells.size = cts.length := by rw [e1]; simp; omega
          simp only [List.map_cons, Instr.fill]
          rw [if_neg (by rw [hsz]; simp; omega)]
          have hfold := fill_seg (E.a.eval x) (j * cts.length) us.toArray (by rw [hsz]; simp; omega)
          have : (E.a.eval x).cells.zipIdx.foldl (fun cs (x : Value × Nat) => cs.setIfInBounds (j * cts.length + x.2) x.1) us.toArray = (overlay us (j * cts.length) vs).toArray := by
            apply Array.ext'
            rw [hfold, e1]
            simp [overlay]
          rw [s1.a] at e2
          exact (congrArg (fun z => Instr.fill _ z _) this).trans e2
        · exact w1.elim
      · exact h3.elim
    · exact hw.elim

/-- A slot takes a slice of the call's own. -/
def ownSet (N : Nat) (o : Oper) (e : TypeId) (rows : List (List D)) : Pg :=
  match o.dst with
  | some d => .lt d N (.set 1 (.slot d) (.val false [.sl true e rows]) .done)
  | none => .fail
theorem sound_grown {E : Env} {o : Oper} {Q : St → Prop} {K : Act → World → Prop} {Qx : Exit → Act → World → Prop} {v : Value} {w' : World} {e : TypeId} {rows : List (List D)} (h : Rel T W N E)
    (hrun : (execOp E.a.eval o).run P E.w = .ok (.value v) w') (hg : E.w.grownBy w' (E.bk (.slot N) 0))
    (hblk : ∀ x, v.ownBlock = some x → (E.bk (.slot N) 0 = some x ∨ E.w.heap.size ≤ x) ∧ x < w'.heap.size)
    (hown : ∀ E', E'.w = w' → Step E E' → Own T w' E'.X 0 e v rows)
    (hw : (ownSet N o e rows).wp Q E.σ) (hK : ∀ E', Rel T W N E' → Q E'.σ → K E'.a E'.w) : o.wp P E.a E.w K Qx := by
  unfold Oper.wp
  rw [hrun, Oper.upon_value]
  unfold ownSet at hw
  split at hw
  · rename_i d hd
    rw [hd]
    exact hK _ (h.grown (d := d) (v := v) (w' := w') (e := e) (rows := rows) (Pg.lt_wp hw).1 hg hblk (fun s => hown _ rfl s)) (Pg.lt_wp hw).2
  · exact hw.elim

def stepSlice0 (T : Tab) (N : Nat) (o : Oper) (t : TypeId) (len : Nat) (parts : List (Nat × Operand)) : Pg :=
  match elemT T t with
  | some (e, te) => if parts.length = len ∧ len * te.cts.length ≤ 16777216 ∧ 0 < te.cts.length then rowsGo te.cts (fun rows => ownSet N o e rows) parts 0 [] else .fail
  | none => .fail
theorem buildSlice_ok (hT : TabOk P T) {o : Oper} {t : TypeId} {len : Nat} {parts : Array (Nat × Operand)} (ho : o.op = .buildSlice t len parts) : OpOk P T W N o (stepSlice0 T N o t len parts.toList) := by
  intro E Q K Qx h hw hK
  unfold stepSlice0 at hw
  split at hw
  · rename_i e te ht
    obtain ⟨hu, hte, hTe⟩ := elemT_spec hT ht
    split at hw
    · rename_i hlen
      obtain ⟨hpl, hcap, hpos⟩ := hlen
      obtain ⟨z, hz1, hz2, _⟩ := zeroCells_eq hte
      obtain ⟨inf, i1, i2, _⟩ := hte.info
      let us0 : List Value := ((Array.range (len * te.cts.length)).map ((if len * te.cts.length = 0 then #[] else z.cells)[· % (if len * te.cts.length = 0 then #[] else z.cells).size]!)).toList
      have hus0 : us0.length = len * te.cts.length := by simp [us0]
      obtain ⟨E', rows, us', r1, s1, l1, l2, q1, e1, w1⟩ := rowsGo_sound (cts := te.cts) (acc := []) (i := 0) (parts := parts.toList) (us := us0) h rfl ⟨fun k row hk => by simp at hk, fun k j ct d row hk => by simp at hk⟩ (by rw [hus0, Nat.zero_add, hpl]; exact Nat.le_refl _) hw
      have hrl : rows.length = len := by omega
      refine s1.run (sound_grown (e := e) (rows := rows) r1 (v := .slice (some ⟨E'.w.heap.size, 0, none⟩) len len) (w' := E'.w.alloc (.cells us'.toArray e)) ?_ (World.grownBy_alloc _ _ _) (fun x hx => ?_) (fun E2 hE2 s2 => ?_) w1 hK)
      · rw [s1.a, s1.w]
        have hn : ¬ (len * te.cts.length > 2 ^ 24) := by omega
        have e1' : Instr.fill (fun i => some (i * te.cts.length, te.cts.length)) ((Array.range (len * te.cts.length)).map ((if len * te.cts.length = 0 then #[] else z.cells)[· % (if len * te.cts.length = 0 then #[] else z.cells).size]!)) (parts.map fun (i, x) => (i, E.a.eval x)).toList = some us'.toArray := by
          rw [Array.toList_map]
          have : us0.toArray = (Array.range (len * te.cts.length)).map ((if len * te.cts.length = 0 then #[] else z.cells)[· % (if len * te.cts.length = 0 then #[] else z.cells).size]!) := Array.toArray_toList
          rw [← this]; exact e1
        have hrun : (Instr.buildSlice t len (parts.map fun (i, x) => (i, E.a.eval x))).run P E.w = .ok (.slice (some ⟨E.w.heap.size, 0, none⟩) len len) (E.w.alloc (.cells us'.toArray e)) := by
          simp only [Instr.buildSlice, Sem.run_bind, run_underlying hu, Result.andThen_ok, sizeOf, typeInfo]
          simp only [Sem.run, program, i1, i2, Sem.run_pure, Result.andThen_ok, if_neg hn]
          by_cases hz0 : len * te.cts.length = 0
          · simp only [if_pos hz0] at e1' ⊢
            simp only [Sem.run_bind, Sem.run_pure, Result.andThen_ok]
            rw [e1']
            rfl
          · simp only [if_neg hz0] at e1' ⊢
            simp only [Sem.run_bind, hz1, Sem.run_pure, Result.andThen_ok]
            rw [e1']
            rfl
        simp only [execOp, ho, Sem.run_bind, hrun, Result.andThen_ok]
        rfl
      · have : E'.w.heap.size = x := by simpa [Value.ownBlock] using hx
        subst this
        exact ⟨.inr (Nat.le_refl _), by simp⟩
      · refine ⟨te, us', hTe, ⟨?_, .inr ⟨E'.w.heap.size, len, us'.toArray, by rw [hrl], ?_, heap_alloc_new _ _, by omega, ?_, ?_, ?_⟩⟩, q1.1, fun k j ct d row a b c => ?_⟩
        · rw [hrl, l2, hus0]
        · exact Nat.zero_le _
        · have : len ≤ len * te.cts.length := Nat.le_mul_of_pos_right _ hpos
          simp only [maxLen]; omega
        · simp [l2, hus0]
        · rw [hrl]; simp; rw [List.take_of_length_le (by rw [l2, hus0]; exact Nat.le_refl _)]
        · obtain ⟨u, hu', hr⟩ := q1.2 k j ct d row a b c
          refine ⟨u, hu', ?_⟩
          have := hr.move s2.keep s2.less
          rwa [hE2] at this
    · exact hw.elim
  · exact hw.elim
end Go.Proofs.YtijnlnmoellbaaaGreat.Ab
