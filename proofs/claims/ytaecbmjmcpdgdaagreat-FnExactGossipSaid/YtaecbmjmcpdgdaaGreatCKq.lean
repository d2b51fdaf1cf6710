/- A slice built of parts that are shared: a new block, shared itself. No program in sight. A row of a slice that owns all that it leads to takes a structure with what that owns. No program in sight. Owned data in raw memory: its cells are read, written, and its parts handed on; marks over data. No program in sight. A cell, a row of an owned slice takes a value with what it owns. No program in sight. A structure is stored into an element of a slice that owns all that it leads to. No program in sight. -/
import Derived.Test.YtaecbmjmcpdgdaaGreatCK5
import Derived.Test.YtaecbmjmcpdgdaaGreatCK4
namespace Go.Proofs.YtaecbmjmcpdgdaaGreat.Ab
open Go.RowKit
set_option linter.unusedVariables false
variable {P : Program} {T : Tab} {W : Base} {N : Nat}
def stepSliceF (T : Tab) (N : Nat) (o : Oper) (t : TypeId) (len : Nat) (parts : List (Nat × Operand)) : Pg :=
  match elemT T t with
  | some (e, te) => if parts.length = len ∧ len * te.cts.length ≤ 16777216 ∧ 0 < te.cts.length then rowsGo te.cts (fun rows => resSet N o (.val false [.sl false e rows])) parts 0 [] else .fail
  | none => .fail
theorem buildSliceF_ok (hT : TabOk P T) {o : Oper} {t : TypeId} {len : Nat} {parts : Array (Nat × Operand)} (ho : o.op = .buildSlice t len parts) : OpOk P T W N o (stepSliceF T N o t len parts.toList) := by
  intro E Q K Qx h hw hK
  unfold stepSliceF at hw
  split at hw
  case h_2 => exact hw.elim
  rename_i e te ht
  obtain ⟨hu, hte, hTe⟩ := elemT_spec hT ht
  split at hw
  case isFalse => exact hw.elim
  rename_i hlen
  obtain ⟨hpl, hcap, hpos⟩ := hlen
  obtain ⟨z, hz1, hz2, _⟩ := zeroCells_eq hte
  obtain ⟨inf, i1, i2, _⟩ := hte.info
  let us0 : List Value := ((Array.range (len * te.cts.length)).map ((if len * te.cts.length = 0 then #[] else z.cells)[· % (if len * te.cts.length = 0 then #[] else z.cells).size]!)).toList
  have hus0 : us0.length = len * te.cts.length := by simp [us0]
  obtain ⟨E', rows, us', r1, s1, l1, l2, q1, e1, w1⟩ := rowsGo_sound (cts := te.cts) (acc := []) (i := 0) (parts := parts.toList) (us := us0) h rfl ⟨fun k row hk => by simp at hk, fun k j ct d row hk => by simp at hk⟩ (by rw [hus0, Nat.zero_add, hpl]; exact Nat.le_refl _) hw
  have hrl : rows.length = len := by omega
  refine s1.run ?_
  have hx : (execOp E'.a.eval o).run P E'.w = .ok (.value (.slice (some ⟨E'.w.heap.size, 0, none⟩) len len)) (E'.w.alloc (.cells us'.toArray e)) := by
    rw [s1.a, s1.w]
    have hn : ¬ (len * te.cts.length > 2 ^ 24) := by omega
    have e1' : Instr.fill (fun i => some (i * te.cts.length, te.cts.length)) ((Array.range (len * te.cts.length)).map ((if len * te.cts.length = 0 then #[] else z.cells)[· % (if len * te.cts.length = 0 then #[] else z.cells).size]!)) (parts.map fun (i, x) => (i, E.a.eval x)).toList = some us'.toArray := by
      rw [Array.toList_map]
      have : us0.toArray = (Array.range (len * te.cts.length)).map ((if len * te.cts.length = 0 then #[] else z.cells)[· % (if len * te.cts.length = 0 then #[] else z.cells).size]!) := Array.toArray_toList
      rw [← this]; exact e1
    have hrun : (Instr.buildSlice t len (parts.map fun (i, x) => (i, E.a.eval x))).run P E.w = .ok (.slice (some ⟨E.w.heap.size, 0, none⟩) len len) (E.w.alloc (.cells us'.toArray e)) := by
      simp only [Instr.buildSlice, Sem.run_bind, run_underlying hu, Result.andThen_ok, sizeOf, typeInfo]
      simp only [Sem.run, program, i1, i2, Sem.run_pure, Result.andThen_ok, if_neg hn]
      by_cases hz0 : len * te.cts.length = 0
      · simp only [if_pos hz0] at e1' ⊢
        simp only [Sem.run_bind, Sem.run_pure, Result.andThen_ok]
        rw [e1']
        rfl
      · simp only [if_neg hz0] at e1' ⊢
        simp only [Sem.run_bind, hz1, Sem.run_pure, Result.andThen_ok]
        rw [e1']
        rfl
    simp only [execOp, ho, Sem.run_bind, hrun, Result.andThen_ok]
    rfl
  unfold Oper.wp
  rw [hx, Oper.upon_value]
  have hb : Below E'.w.heap.size E'.w (E'.w.alloc (.cells us'.toArray e)) := (Below.refl _ _).alloc (Nat.le_refl _) _
  unfold resSet at w1
  split at w1
  case h_2 => exact w1.elim
  rename_i d hd
  rw [Pg.setF_eq] at w1
  rw [hd]
  refine hK (E'.called N d (.slice (some ⟨E'.w.heap.size, 0, none⟩) len len) (.val false [.sl false e rows]) (E'.w.alloc (.cells us'.toArray e)) fun _ => noB) (r1.called (Pg.lt_wp w1).1 hb (fun j b h => by cases h) (fun j j' b h => by cases h) fun s => ⟨_, rfl, ?_⟩) (Pg.lt_wp w1).2
  show RdR T (E'.w.alloc (.cells us'.toArray e)) (E'.called N d (.slice (some ⟨E'.w.heap.size, 0, none⟩) len len) (.val false [.sl false e rows]) (E'.w.alloc (.cells us'.toArray e)) fun _ => noB).X (.l e) _ (.l rows)
  have hml : len ≤ maxLen := by
    have : len ≤ len * te.cts.length := Nat.le_mul_of_pos_right _ hpos
    simp only [maxLen]; omega
  have hnew : (E'.w.alloc (.cells us'.toArray e)).heap[E'.w.heap.size]? = some (.cells us'.toArray e) := heap_alloc_new _ _
  rw [← hrl] at hml ⊢
  refine .sl e te E'.w.heap.size 0 rows.length rows (fun k j => us'.getD (k * te.cts.length + j) undef) hTe (Nat.le_refl _) hml (fun hx => ?_) (by simp) (fun k j hk hj => ?_) q1.1 (fun k j ct dd row hk hct hdd => ?_)
  · rcases hx with hx | ⟨t, ht, hx⟩ | ⟨l, j, hl⟩
    · have := W.x0lt _ (r1.x0 ▸ hx)
      have := r1.base.size
      omega
    · have hat : E'.alive t := by
        obtain ⟨m, hm⟩ := ht
        refine ⟨m, ?_⟩
        rw [← hm]
        show _ = (upd _ _ _ _).2
        rw [upd_other (by simp)]
      have := (r1.bxlo t hat).2
      have hx' : E'.w.heap.size = E'.β t := hx
      omega
    · simp only [Env.called] at hl
      split at hl
      · cases hl
      · split at hl
        · cases hl
        · have := (r1.owlo _ _ _ hl).2
          omega
  · rw [cell_of_row _ _ _ us'.toArray e _ hnew, Nat.zero_add]
    have hi : k * te.cts.length + j < us'.length := by
      rw [l2, hus0, ← hrl]
      have : (k + 1) * te.cts.length ≤ rows.length * te.cts.length := Nat.mul_le_mul_right _ hk
      rw [Nat.succ_mul] at this
      omega
    simp [List.getD_eq_getElem?_getD, List.getElem?_eq_getElem hi]
  · obtain ⟨u, hu', hr⟩ := q1.2 k j ct dd row hk hct hdd
    rw [List.getD_eq_getElem?_getD, hu']
    exact hr.move s.keep s.less
def shC : CV → Bool
  | .sl false _ _ => true
  | _ => false
def shV : SV → Bool
  | .val _ cs => cs.any shC
  | _ => false
def stepSlice2 (T : Tab) (N : Nat) (o : Oper) (t : TypeId) (len : Nat) (parts : List (Nat × Operand)) : Pg :=
  match T.dp, parts with
  | true, [(_, x)] => rdv x fun sv => match shV sv with
    | true => stepSliceF T N o t len parts
    | false => stepSlice0 T N o t len parts
  | _, _ => stepSlice0 T N o t len parts
theorem buildSlice2_ok (hT : TabOk P T) {o : Oper} {t : TypeId} {len : Nat} {parts : Array (Nat × Operand)} (ho : o.op = .buildSlice t len parts) : OpOk P T W N o (stepSlice2 T N o t len parts.toList) := by
  intro E Q K Qx h hw hK
  have h1 := buildSlice_ok (W := W) (N := N) hT ho
  have h2 := buildSliceF_ok (W := W) (N := N) hT ho
  generalize parts.toList = ps at *
  unfold stepSlice2 at hw
  split at hw
  · obtain ⟨sv, _, _, h3⟩ := rdv_sound h hw (.slot N)
    split at h3
    · exact h2 E Q K Qx h h3 hK
    · exact h1 E Q K Qx h h3 hK
  · exact h1 E Q K Qx h hw hK
end Go.Proofs.YtaecbmjmcpdgdaaGreat.Ab
namespace Go.Proofs.YtaecbmjmcpdgdaaGreat.Ab
open Go.RowKit
set_option linter.unusedVariables false
variable {P : Program} {T : Tab} {W : Base} {N : Nat}
def Env.pokeD (E : Env) (N : Nat) (q : Loc) (ag : Bool) (cs : List CV) (j : Nat) (e : TypeId) (rows : List (List D)) (w' : World) (F' : Nat → Prop) : Env :=
  { E with σ := updm E.σ q (.val ag (cs.set j (.sl true e rows))), w := w', bk := fun l i => if l = q ∧ i = j then F' else if l = .slot N then noB else E.bk l i }
theorem Rel.pokeD {E : Env} (h : Rel T W N E) {q : Loc} {ag : Bool} {cs : List CV} {j g o : Nat} {e : TypeId} {rows rows' : List (List D)} {us : List Value} {v : Value} {F' : Nat → Prop} (hq : (E.σ q).2 = .val ag cs) (hj : cs[j]? = some (.sl true e rows))
    (hat : E.at_ q j = some v) (hbk : E.bk q j g) (hdp : dpT T e = true) (hF : ∀ b, F' b → E.bk q j b ∨ ∃ i, E.bk (.slot N) i b) (hnew : DeepV T (E.w.setCells g o us) F' (.l e) v (.l rows')) :
    Rel T W N (E.pokeD N q ag cs j e rows' (E.w.setCells g o us) F') := by
  obtain ⟨f1, f2, f3, f4, f5⟩ := setCells_frame g us o E.w
  generalize hw' : E.w.setCells g o us = w' at *
  have hqN : q ≠ .slot N := fun e => by subst e; exact h.ghost hq hj
  have hne : ∀ t, E.alive t → g ≠ E.β t := fun t ha => h.owbx q j g t hbk ha
  have hgl := h.owlo q j g hbk
  have σq : ((E.pokeD N q ag cs j e rows' w' F').σ q) = ((E.σ q).1, .val ag (cs.set j (.sl true e rows'))) := by show updw 0 _ _ _ _ = _; simp [updw]
  have σo : ∀ {l}, l ≠ q → (E.pokeD N q ag cs j e rows' w' F').σ l = E.σ l := fun {l} hl => by show updw 0 _ _ _ _ = _; simp [updw, hl]
  have gen_eq : ∀ t m, ((E.pokeD N q ag cs j e rows' w' F').σ (.gen t)).2 = .num m ↔ (E.σ (.gen t)).2 = .num m := fun t m => by
    by_cases e' : Loc.gen t = q
    · rw [e', σq, hq]; simp
    · rw [σo e']
  have hal : ∀ t, (E.pokeD N q ag cs j e rows' w' F').alive t ↔ E.alive t := fun t => ⟨fun ⟨m, hm⟩ => ⟨m, (gen_eq t m).1 hm⟩, fun ⟨m, hm⟩ => ⟨m, (gen_eq t m).2 hm⟩⟩
  have bkq : (E.pokeD N q ag cs j e rows' w' F').bk q j = F' := by simp [Env.pokeD]
  have bko : ∀ {l i}, ¬ (l = q ∧ i = j) → l ≠ .slot N → (E.pokeD N q ag cs j e rows' w' F').bk l i = E.bk l i := fun {l i} h1 h2 => by simp only [Env.pokeD]; rw [if_neg h1, if_neg h2]
  have old : ∀ {l i x}, (E.pokeD N q ag cs j e rows' w' F').bk l i x → ∃ l0 i0, E.bk l0 i0 x ∧ ((l = q ∧ i = j ∧ ((l0 = q ∧ i0 = j) ∨ l0 = .slot N)) ∨ (l0 = l ∧ i0 = i ∧ ¬ (l = q ∧ i = j) ∧ l ≠ .slot N)) := fun {l i x} hl => by
    by_cases h1 : l = q ∧ i = j
    · obtain ⟨rfl, rfl⟩ := h1
      rw [bkq] at hl
      rcases hF x hl with hx | ⟨i0, hx⟩
      · exact ⟨_, _, hx, .inl ⟨rfl, rfl, .inl ⟨rfl, rfl⟩⟩⟩
      · exact ⟨_, _, hx, .inl ⟨rfl, rfl, .inr rfl⟩⟩
    · by_cases h2 : l = .slot N
      · simp only [Env.pokeD] at hl
        rw [if_neg h1, if_pos h2] at hl
        exact hl.elim
      · rw [bko h1 h2] at hl
        exact ⟨l, i, hl, .inr ⟨rfl, rfl, h1, h2⟩⟩
  have hX : ∀ b, (E.pokeD N q ag cs j e rows' w' F').X b → E.X b := fun b hb => by
    rcases hb with hb | ⟨t, ht, rfl⟩ | ⟨l, i, hl⟩
    · exact .inl hb
    · exact .inr (.inl ⟨t, (hal t).1 ht, rfl⟩)
    · obtain ⟨l0, i0, h0, _⟩ := old hl
      exact .inr (.inr ⟨l0, i0, h0⟩)
  have s : Step E (E.pokeD N q ag cs j e rows' w' F') := by
    refine ⟨fun l => ?_, fun t _ => rfl, ⟨by show E.w.heap.size ≤ w'.heap.size; rw [f4]; exact Nat.le_refl _, fun b _ hn => f5 b (fun hb => hn (.inr (.inr ⟨q, j, by rw [hb]; exact hbk⟩)))⟩, fun b _ hb => hX b hb⟩
    have hver : ((E.pokeD N q ag cs j e rows' w' F').σ l).1 = (E.σ l).1 := by
      by_cases e' : l = q
      · rw [e', σq]
      · rw [σo e']
    refine ⟨by rw [hver]; exact Nat.le_refl _, fun _ i => ?_⟩
    cases l with
    | slot t => rfl
    | gen t => rfl
    | cell t i' => exact Env.cellAt_congr (fun m => gen_eq t m) (fun m hm => World.cell?_of_block (w := E.w) (f5 _ (fun hb => hne t ⟨m, hm⟩ hb.symm)))
  have hoth : ∀ l i b, ¬ (l = q ∧ i = j) → E.bk l i b → w'.heap[b]? = E.w.heap[b]? := fun l i b hn hb => f5 b (fun hbg => by
    subst hbg
    exact hn ⟨(h.owinj _ _ _ _ _ hb hbk).1, (h.owinj _ _ _ _ _ hb hbk).2⟩)
  have hnew' : RelCV T W (E.pokeD N q ag cs j e rows' w' F') q j v (.sl true e rows') := by
    show OwnF T w' _ ((E.pokeD N q ag cs j e rows' w' F').bk q j) e v rows'
    rw [bkq]
    exact OwnF.of_deep hdp hnew
  refine h.next s ?_ h.defers h.size (fun t => ?_) (fun t m i hm hi => ?_) (fun t ha => by show _ ∧ _ < w'.heap.size; rw [f4]; exact h.bxlo t ((hal t).1 ha)) (fun t t' ha ha' he => h.bxinj t t' ((hal t).1 ha) ((hal t').1 ha') he)
    (fun l i b hb => by obtain ⟨l0, i0, h0, _⟩ := old hb; show _ ∧ _ < w'.heap.size; rw [f4]; exact h.owlo l0 i0 b h0) (fun l i l' i' b hb hb' => ?_) (fun l i b t hb ha => by obtain ⟨l0, i0, h0, _⟩ := old hb; exact h.owbx l0 i0 b t h0 ((hal t).1 ha))
  · exact h.base.next f1 f2 f3 (by show _ ≤ w'.heap.size; rw [f4]; exact Nat.le_refl _) (fun k' hk' hn => f5 k' (fun e' => hn (e' ▸ (h.owlo q j g hbk).1)))
  · by_cases e' : Loc.slot t = q
    · right
      have h0 := h.slot t
      rw [e'] at h0 ⊢
      rw [σq]
      rw [hq] at h0
      have hatt : ∀ i, E.at_ q i = (E.a.tmps.getD t undef).cells[i]? := fun i => by rw [← e']; rfl
      cases ag with
      | true =>
        obtain ⟨arr, h1, h2, h3⟩ := h0
        refine ⟨arr, h1, by simpa using h2, fun i c' hc' => ?_⟩
        rw [List.getElem?_set] at hc'
        split at hc'
        · rename_i hij
          subst hij
          split at hc'
          · obtain rfl := Option.some.inj hc'
            refine ⟨v, ?_, hnew'⟩
            have := hatt j
            rw [hat, h1] at this
            exact this.symm
          · cases hc'
        · rename_i hij
          obtain ⟨u, hu, hru⟩ := h3 i c' hc'
          exact ⟨u, hu, hru.step s (fun e'' rows'' _ => ⟨bko (fun hh => hij hh.2.symm) hqN, fun b hb => hoth q i b (fun hh => hij hh.2.symm) hb⟩)⟩
      | false =>
        obtain ⟨c0, rfl, h2⟩ := h0
        cases j with
        | zero =>
          obtain rfl : c0 = .sl true e rows := Option.some.inj hj
          refine ⟨_, rfl, ?_⟩
          have := hatt 0
          rw [hat, h2.cells1] at this
          obtain rfl : v = E.a.tmps.getD t undef := by simpa using this
          exact hnew'
        | succ j => cases hj
    · by_cases eN : t = N
      · subst eN
        right
        rw [σo e']
        exact (h.slot t).step s (fun j ho => (h.ghostA ho).elim)
      · left
        exact ⟨by rw [σo e'], rfl, fun i => ⟨bko (fun hh => e' hh.1) (fun hh => eN (by simpa using hh)), fun b hb => hoth _ i b (fun hh => e' hh.1) hb⟩⟩
  · have hm' := (gen_eq t m).1 hm
    have ha : E.alive t := ⟨m, hm'⟩
    have hblk : w'.heap[E.β t]? = E.w.heap[E.β t]? := f5 _ (fun hb => hne t ha hb.symm)
    by_cases e' : Loc.cell t i = q
    · right
      obtain ⟨c0, v0, e1, e2, e3, e4⟩ := h.cell t m i hm' hi
      rw [e'] at e1 ⊢
      rw [hq] at e1
      simp only [SV.val.injEq] at e1
      obtain ⟨rfl, rfl⟩ := e1
      cases j with
      | zero =>
        refine ⟨_, v0, by rw [σq]; rfl, (World.cell?_of_block (w := E.w) hblk).trans e2, (World.frozen?_of_block (w := E.w) hblk).trans e3, ?_⟩
        have : E.at_ q 0 = some v0 := by rw [← e', Env.at_cell hm' hi]; exact e2
        rw [hat] at this
        obtain rfl := Option.some.inj this
        exact hnew'
      | succ j => cases hj
    · left
      exact ⟨hm', by rw [σo e'], World.cell?_of_block (w := E.w) hblk, World.frozen?_of_block (w := E.w) hblk, bko (fun hh => e' hh.1) (by simp), fun b hb => hoth _ _ b (fun hh => e' hh.1) hb⟩
  · obtain ⟨l0, i0, h0, c0⟩ := old hb
    obtain ⟨l1, i1, h1, c1⟩ := old hb'
    obtain ⟨rfl, rfl⟩ := h.owinj _ _ _ _ _ h0 h1
    rcases c0 with ⟨rfl, rfl, _⟩ | ⟨rfl, rfl, a1, a2⟩
    · rcases c1 with ⟨rfl, rfl, _⟩ | ⟨b1, b2, b3, b4⟩
      · exact ⟨rfl, rfl⟩
      · rename_i hc
        rcases hc with ⟨rfl, rfl⟩ | rfl
        · exact absurd ⟨b1.symm, b2.symm⟩ b3
        · exact absurd b1.symm b4
    · rcases c1 with ⟨rfl, rfl, hc⟩ | ⟨b1, b2, _, _⟩
      · rcases hc with ⟨rfl, rfl⟩ | rfl
        · exact absurd ⟨rfl, rfl⟩ a1
        · exact absurd rfl a2
      · exact ⟨b1, b2⟩
end Go.Proofs.YtaecbmjmcpdgdaaGreat.Ab
namespace Go.Proofs.YtaecbmjmcpdgdaaGreat.Ab
open Go.RowKit
set_option linter.unusedVariables false
def setD (rows : List (List D)) (k j : Nat) (d : D) : List (List D) := rows.set k ((rows.getD k []).set j d)
theorem setD_length (rows : List (List D)) (k j : Nat) (d : D) : (setD rows k j d).length = rows.length := List.length_set
theorem setD_row {rows : List (List D)} {k j : Nat} {d : D} {k' : Nat} {row : List D} (hk : k < rows.length) (h : (setD rows k j d)[k']? = some row) :
    ∃ r, rows[k']? = some r ∧ row.length = r.length ∧ (k' = k → row = r.set j d) ∧ (k' ≠ k → row = r) := by
  unfold setD at h
  by_cases e : k' = k
  · subst e
    rw [List.getElem?_set_self hk] at h
    have h := Option.some.inj h
    have hr : rows.getD k' [] = rows[k'] := by simp [List.getD_eq_getElem?_getD, List.getElem?_eq_getElem hk]
    rw [hr] at h
    exact ⟨_, List.getElem?_eq_getElem hk, by rw [← h, List.length_set], fun _ => h.symm, fun h => absurd rfl h⟩
  · rw [List.getElem?_set_ne (Ne.symm e)] at h
    exact ⟨row, h, rfl, fun h => absurd h e, fun _ => rfl⟩
theorem idx_lt {k n j m : Nat} (hk : k < n) (hj : j < m) : k * m + j < n * m := by
  have : k * m + m ≤ n * m := by rw [← Nat.succ_mul]; exact Nat.mul_le_mul_right _ hk
  omega
theorem idx_inj {k k' j j' m : Nat} (hj : j < m) (hj' : j' < m) (h : k * m + j = k' * m + j') : k = k' ∧ j = j' := by
  have h1 : (k * m + j) / m = k := by rw [Nat.mul_comm, Nat.mul_add_div (by omega), Nat.div_eq_of_lt hj, Nat.add_zero]
  have h2 : (k' * m + j') / m = k' := by rw [Nat.mul_comm, Nat.mul_add_div (by omega), Nat.div_eq_of_lt hj', Nat.add_zero]
  have : k = k' := by rw [← h1, ← h2, h]
  subst this
  exact ⟨rfl, by omega⟩
section
variable {T : Tab} {w : World} {F : Nat → Prop} {e : TypeId} {ty : Ty} {g n cap : Nat} {rows : List (List D)}
theorem DeepV.part (h : DeepV T w F (.l e) (.slice (some ⟨g, 0, none⟩) n cap) (.l rows)) (he : T e = some ty) {k j : Nat} {ct : CT} (hk : k < n) (hj : ty.cts[j]? = some ct) {o : Nat} (ho : k * ty.cts.length + j = o) :
    n = rows.length ∧ F g ∧ g < w.heap.size ∧ ∃ (u : Value) (d : D) (G : Nat → Prop), w.cell? ⟨g, o, none⟩ = some u ∧ w.frozen? ⟨g, o, none⟩ = false ∧ (rows.getD k [])[j]? = some d ∧
      DeepV T w G ct u d ∧ (∀ b, G b → F b ∧ b ≠ g) ∧
      (∀ w' d', (∀ b, F b → ¬ G b → w'.heap[b]? = w.heap[b]?) → DeepV T w' G ct u d' → DeepV T w' F (.l e) (.slice (some ⟨g, 0, none⟩) n cap) (.l (setD rows k j d'))) ∧
      ((∀ e', ct ≠ .l e') → ∀ u' d', RdR T w (fun _ => False) ct u' d' → DeepV T (w.setCell ⟨g, o, none⟩ u') F (.l e) (.slice (some ⟨g, 0, none⟩) n cap) (.l (setD rows k j d'))) := by
  subst ho
  obtain ⟨ty', xs, G, h1, h2, h3, h4, h5, h6, h7⟩ := h.inv
  obtain rfl : ty = ty' := Option.some.inj (he.symm.trans h1)
  obtain ⟨A', c', hs⟩ := h.slice
  obtain rfl : n = rows.length := by cases hs; rfl
  clear hs
  have hjl : j < ty.cts.length := (List.getElem?_eq_some_iff.1 hj).1
  have hlt := idx_lt hk hjl
  have hx : xs.length = rows.length * ty.cts.length := h2.1
  have hrow : rows[k]? = some (rows.getD k []) := by simp [List.getD_eq_getElem?_getD, List.getElem?_eq_getElem hk]
  have hrl := h3 k _ hrow
  have hd : (rows.getD k [])[j]? = some ((rows.getD k [])[j]'(by omega)) := List.getElem?_eq_getElem (by omega)
  have hu : xs[k * ty.cts.length + j]? = some (xs.getD (k * ty.cts.length + j) undef) := by simp [List.getD_eq_getElem?_getD, List.getElem?_eq_getElem (show k * ty.cts.length + j < xs.length by omega)]
  have hcell := h2.cells (g := g) rfl _ _ hu
  rw [Addr.add_mid, Nat.zero_add] at hcell
  have hF : F g := (h4 g).2 (.inl rfl)
  have hD := h7 k j ct _ _ hrow hj hd
  obtain ⟨cur, hcur, hn1, hn2, hn3, hn4⟩ : ∃ cur, w.heap[g]? = some (.cells cur e (0, 0)) ∧ rows.length ≤ cap ∧ cap ≤ maxLen ∧ cur.size = cap * ty.cts.length ∧ cur.toList.take (rows.length * ty.cts.length) = xs := by
    rcases h2.2 with ⟨e1, _⟩ | ⟨g', cap', cur, e1, _, e3, e4, e5, e6, e7⟩
    · cases e1
    · cases e1; exact ⟨cur, e3, e4, e5, e6, e7⟩
  have hfr : w.frozen? ⟨g, k * ty.cts.length + j, none⟩ = false := by simp [World.frozen?, hcur]
  have step : ∀ (w' : World) (u' : Value) (d' : D) (cur' : Array Value), w'.heap[g]? = some (.cells cur' e (0, 0)) → cur'.size = cur.size → cur'.toList.take (rows.length * ty.cts.length) = xs.set (k * ty.cts.length + j) u' →
      (∀ b, F b → b ≠ g → ¬ G (k * ty.cts.length + j) b → w'.heap[b]? = w.heap[b]?) → DeepV T w' (G (k * ty.cts.length + j)) ct u' d' → DeepV T w' F (.l e) (.slice (some ⟨g, 0, none⟩) rows.length cap) (.l (setD rows k j d')) := by
    intro w' u' d' cur' c1 c2 c3 c4 c5
    have hl := setD_length rows k j d'
    rw [← hl] at c3 hn1 ⊢
    refine .sl F e ty _ _ (xs.set (k * ty.cts.length + j) u') G he ⟨by rw [List.length_set, hl]; exact hx, .inr ⟨g, cap, cur', rfl, Nat.zero_le _, c1, hn1, hn2, c2.trans hn3, c3⟩⟩ (fun k' row hr => ?_) h4 (fun i b hi => by rw [hl]; exact h5 i b hi) h6 (fun k' j' ct' dd row hr hc hrd => ?_)
    · obtain ⟨r, a1, a2, _⟩ := setD_row hk hr
      exact a2.trans (h3 k' r a1)
    · obtain ⟨r, a1, a2, a3, a4⟩ := setD_row hk hr
      have hj' : j' < ty.cts.length := (List.getElem?_eq_some_iff.1 hc).1
      have hk' : k' < rows.length := (List.getElem?_eq_some_iff.1 a1).1
      have other : k' * ty.cts.length + j' ≠ k * ty.cts.length + j → r[j']? = some dd → DeepV T w' (G (k' * ty.cts.length + j')) ct' ((xs.set (k * ty.cts.length + j) u').getD (k' * ty.cts.length + j') undef) dd := by
        intro hne hrd'
        rw [List.getD_eq_getElem?_getD, List.getElem?_set_ne (Ne.symm hne), ← List.getD_eq_getElem?_getD]
        refine (h7 k' j' ct' dd r a1 hc hrd').move fun b hb => ?_
        exact c4 b ((h4 b).2 (.inr ⟨_, hb⟩)) (fun hb' => (h5 _ b hb).1 (by rw [hb']; rfl)) (fun hb' => hne (h6 _ _ b hb hb'))
      by_cases ek : k' = k
      · subst ek
        rw [a3 rfl] at hrd
        by_cases ej : j' = j
        · subst ej
          obtain rfl : ct = ct' := Option.some.inj (hj.symm.trans hc)
          rw [List.getElem?_set_self (by rw [h3 k' r a1]; exact hj')] at hrd
          obtain rfl := Option.some.inj hrd
          rw [List.getD_eq_getElem?_getD, List.getElem?_set_self (by omega)]
          exact c5
        · rw [List.getElem?_set_ne (Ne.symm ej)] at hrd
          exact other (fun h => ej (idx_inj hj' hjl h).2) hrd
      · rw [a4 ek] at hrd
        exact other (fun h => ek (idx_inj hj' hjl h).1) hrd
  refine ⟨rfl, hF, (Array.getElem?_eq_some_iff.1 hcur).1, _, _, _, hcell, hfr, hd, hD, fun b hb => ⟨(h4 b).2 (.inr ⟨_, hb⟩), fun hb' => (h5 _ b hb).1 (by rw [hb']; rfl)⟩, fun w' d' hw hd' => ?_, fun hc u' d' hr => ?_⟩
  · refine step w' _ d' cur ?_ rfl ?_ (fun b h1 _ h3 => hw b h1 h3) hd'
    · rw [hw g hF (fun hb => (h5 _ g hb).1 rfl)]; exact hcur
    · rw [hn4, List.getD_eq_getElem?_getD, List.getElem?_eq_getElem (show k * ty.cts.length + j < xs.length by omega), Option.getD_some, List.set_getElem_self]
  · refine step _ u' d' (cur.setIfInBounds (k * ty.cts.length + j) u') ?_ (by simp) ?_ (fun b _ hb _ => ?_) (.flat _ _ _ _ (hD.noF hc) hc (hr.plain hc))
    · simp [World.setCell, Array.getElem?_modify, hcur]
    · rw [Array.toList_setIfInBounds, ← hn4, List.take_set]
    · simp [World.setCell, Array.getElem?_modify, Ne.symm hb]
end
theorem DeepV.some {T : Tab} {w : World} {F : Nat → Prop} {e : TypeId} {A : Option Addr} {n c : Nat} {rows : List (List D)} (h : DeepV T w F (.l e) (.slice A n c) (.l rows)) (hn : 0 < n) : ∃ g, A = Option.some ⟨g, 0, none⟩ := by
  obtain ⟨ty, xs, G, h1, h2, _⟩ := h.inv
  rcases h2.2 with ⟨e1, e2⟩ | ⟨g, cap, cur, e1, _⟩
  · cases e1; omega
  · cases e1; exact ⟨g, rfl⟩
theorem DeepV.len {T : Tab} {w : World} {F : Nat → Prop} {e : TypeId} {A : Option Addr} {n c : Nat} {rows : List (List D)} (h : DeepV T w F (.l e) (.slice A n c) (.l rows)) : n = rows.length := by
  obtain ⟨A', c', hs⟩ := h.slice
  cases hs; rfl
theorem DeepV.short {T : Tab} {w : World} {F : Nat → Prop} {e : TypeId} {v : Value} {rows : List (List D)} (h : DeepV T w F (.l e) v (.l rows)) : rows.length ≤ maxLen := by
  obtain ⟨ty, xs, G, h1, h2, _⟩ := h.inv
  rcases h2.2 with ⟨_, e2⟩ | ⟨g, cap, cur, _, _, _, e4, e5, _⟩
  · omega
  · exact Nat.le_trans e4 e5
end Go.Proofs.YtaecbmjmcpdgdaaGreat.Ab
namespace Go.Proofs.YtaecbmjmcpdgdaaGreat.Ab
open Go.RowKit
set_option linter.unusedVariables false
section
variable {T : Tab} {w : World} {F : Nat → Prop} {e : TypeId} {ty : Ty} {g n cap : Nat} {rows : List (List D)}
theorem DeepV.put (h : DeepV T w F (.l e) (.slice (Option.some ⟨g, 0, none⟩) n cap) (.l rows)) (he : T e = Option.some ty) {k j : Nat} {ct : CT} (hk : k < n) (hj : ty.cts[j]? = Option.some ct) {o : Nat} (ho : k * ty.cts.length + j = o)
    {u' : Value} {d' : D} {G' : Nat → Prop} (hD : DeepV T w G' ct u' d') (hdj : ∀ b, G' b → ¬ F b) :
    ∃ F' : Nat → Prop, DeepV T (w.setCell ⟨g, o, none⟩ u') F' (.l e) (.slice (Option.some ⟨g, 0, none⟩) n cap) (.l (setD rows k j d')) ∧ (∀ b, F' b → F b ∨ G' b) ∧ F' g := by
  subst ho
  obtain ⟨ty', xs, G, h1, h2, h3, h4, h5, h6, h7⟩ := h.inv
  obtain rfl : ty = ty' := Option.some.inj (he.symm.trans h1)
  obtain ⟨A', c', hs⟩ := h.slice
  obtain rfl : n = rows.length := by cases hs; rfl
  clear hs
  have hjl : j < ty.cts.length := (List.getElem?_eq_some_iff.1 hj).1
  have hlt := idx_lt hk hjl
  have hx : xs.length = rows.length * ty.cts.length := h2.1
  have hF : F g := (h4 g).2 (.inl rfl)
  obtain ⟨cur, hcur, hn1, hn2, hn3, hn4⟩ : ∃ cur, w.heap[g]? = Option.some (.cells cur e (0, 0)) ∧ rows.length ≤ cap ∧ cap ≤ maxLen ∧ cur.size = cap * ty.cts.length ∧ cur.toList.take (rows.length * ty.cts.length) = xs := by
    rcases h2.2 with ⟨e1, _⟩ | ⟨g', cap', cur, e1, _, e3, e4, e5, e6, e7⟩
    · cases e1
    · cases e1; exact ⟨cur, e3, e4, e5, e6, e7⟩
  have hl := setD_length rows k j d'
  obtain ⟨i0, hi0⟩ : ∃ i0, k * ty.cts.length + j = i0 := ⟨_, rfl⟩
  rw [hi0] at hlt ⊢
  have hblk : ∀ b, b ≠ g → (w.setCell ⟨g, i0, none⟩ u').heap[b]? = w.heap[b]? := fun b hb => by simp [World.setCell, Array.getElem?_modify, Ne.symm hb]
  have hgG : ∀ b, G' b → b ≠ g := fun b hb hbg => hdj b hb (hbg ▸ hF)
  have hGg : ∀ i b, G i b → b ≠ g := fun i b hb hbg => (h5 i b hb).1 (by rw [hbg]; rfl)
  let Gn : Nat → Nat → Prop := fun i b => (i = i0 ∧ G' b) ∨ (i ≠ i0 ∧ G i b)
  refine ⟨fun b => (Value.slice (Option.some ⟨g, 0, none⟩) rows.length cap).ownBlock = Option.some b ∨ ∃ i, Gn i b, ?_, ?_, .inl rfl⟩
  · have hcur' : (w.setCell ⟨g, i0, none⟩ u').heap[g]? = Option.some (.cells (cur.setIfInBounds i0 u') e (0, 0)) := by simp [World.setCell, Array.getElem?_modify, hcur]
    have hrow : (w.setCell ⟨g, i0, none⟩ u').ownsRow 0 e ty.cts.length (.slice (Option.some ⟨g, 0, none⟩) rows.length cap) (setD rows k j d').length (xs.set i0 u') := by
      rw [hl]
      refine ⟨by rw [List.length_set]; exact hx, .inr ⟨g, cap, _, rfl, Nat.zero_le _, hcur', hn1, hn2, by simpa using hn3, ?_⟩⟩
      rw [Array.toList_setIfInBounds, ← hn4, List.take_set]
    refine .sl _ e ty _ _ (xs.set i0 u') Gn he hrow (fun k' row hr => ?_) (fun b => Iff.rfl) (fun i b hi => ?_) (fun i i' b hi hi' => ?_) (fun k' j' ct' dd row hr hc hrd => ?_)
    · obtain ⟨r, a1, a2, _⟩ := setD_row hk hr
      exact a2.trans (h3 k' r a1)
    · rw [hl]
      rcases hi with ⟨rfl, hb⟩ | ⟨_, hb⟩
      · exact ⟨fun hq => hgG b hb (by simpa [Value.ownBlock] using hq.symm), hlt⟩
      · exact h5 i b hb
    · rcases hi with ⟨rfl, hb⟩ | ⟨hne, hb⟩
      · rcases hi' with ⟨rfl, _⟩ | ⟨_, hb'⟩
        · rfl
        · exact absurd ((h4 b).2 (.inr ⟨_, hb'⟩)) (hdj b hb)
      · rcases hi' with ⟨rfl, hb'⟩ | ⟨_, hb'⟩
        · exact absurd ((h4 b).2 (.inr ⟨_, hb⟩)) (hdj b hb')
        · exact h6 i i' b hb hb'
    · obtain ⟨r, a1, a2, a3, a4⟩ := setD_row hk hr
      have hj' : j' < ty.cts.length := (List.getElem?_eq_some_iff.1 hc).1
      have hk' : k' < rows.length := (List.getElem?_eq_some_iff.1 a1).1
      have cong : ∀ {A B : Nat → Prop} {ct2 : CT} {u2 : Value} {d2 : D}, DeepV T (w.setCell ⟨g, i0, none⟩ u') A ct2 u2 d2 → (∀ b, A b ↔ B b) → DeepV T (w.setCell ⟨g, i0, none⟩ u') B ct2 u2 d2 := fun h hab => by
        rename_i A B _ _ _
        rw [show A = B from funext fun b => propext (hab b)] at h
        exact h
      have other : k' * ty.cts.length + j' ≠ i0 → r[j']? = Option.some dd → DeepV T (w.setCell ⟨g, i0, none⟩ u') (Gn (k' * ty.cts.length + j')) ct' ((xs.set i0 u').getD (k' * ty.cts.length + j') undef) dd := by
        intro hne hrd'
        rw [List.getD_eq_getElem?_getD, List.getElem?_set_ne (Ne.symm hne), ← List.getD_eq_getElem?_getD]
        exact cong ((h7 k' j' ct' dd r a1 hc hrd').move fun b hb => hblk b (hGg _ b hb)) fun b => ⟨fun hb => .inr ⟨hne, hb⟩, fun hb => by
          rcases hb with ⟨he', _⟩ | ⟨_, hb⟩
          · exact absurd he' hne
          · exact hb⟩
      by_cases ek : k' = k
      · subst ek
        rw [a3 rfl] at hrd
        by_cases ej : j' = j
        · subst ej
          obtain rfl : ct = ct' := Option.some.inj (hj.symm.trans hc)
          rw [List.getElem?_set_self (by rw [h3 k' r a1]; exact hj')] at hrd
          obtain rfl := Option.some.inj hrd
          rw [hi0, List.getD_eq_getElem?_getD, List.getElem?_set_self (by omega)]
          exact cong (hD.move fun b hb => hblk b (hgG b hb)) fun b => ⟨fun hb => .inl ⟨rfl, hb⟩, fun hb => by
            rcases hb with ⟨_, hb⟩ | ⟨hne, _⟩
            · exact hb
            · exact absurd rfl hne⟩
        · rw [List.getElem?_set_ne (Ne.symm ej)] at hrd
          exact other (fun h => ej (idx_inj hj' hjl (h.trans hi0.symm)).2) hrd
      · rw [a4 ek] at hrd
        exact other (fun h => ek (idx_inj hj' hjl (h.trans hi0.symm)).1) hrd
  · rintro b (hb | ⟨i, ⟨_, hb⟩ | ⟨_, hb⟩⟩)
    · exact .inl ((h4 b).2 (.inl hb))
    · exact .inr hb
    · exact .inl ((h4 b).2 (.inr ⟨i, hb⟩))
end
end Go.Proofs.YtaecbmjmcpdgdaaGreat.Ab
namespace Go.Proofs.YtaecbmjmcpdgdaaGreat.Ab
open Go.RowKit
set_option linter.unusedVariables false
section
variable {T : Tab} {e : TypeId} {ty : Ty} {g n cap : Nat}
theorem set_row {rows : List (List D)} {k : Nat} (hk : k < rows.length) (r : List D) : (rows.set k r).getD k [] = r := by
  simp [List.getD_eq_getElem?_getD, hk]
theorem overlay_cons {r : List D} {s : Nat} {d : D} {ds : List D} (hs : s < r.length) : overlay (r.set s d) (s + 1) ds = overlay r s (d :: ds) := by
  unfold overlay
  have h1 : (r.set s d).take (s + 1) = r.take s ++ [d] := by
    rw [List.take_add_one, List.take_set_of_le (Nat.le_refl _), List.getElem?_set_self hs]
    rfl
  rw [h1, List.drop_set_of_lt (by omega), List.length_cons, show s + 1 + ds.length = s + (ds.length + 1) by omega]
  simp [List.append_assoc]
theorem DeepV.puts (he : T e = Option.some ty) {k : Nat} (hk : k < n) : ∀ (us : List Value) (ds : List D) (s : Nat) (w : World) (F : Nat → Prop) (rows : List (List D)) (G : Nat → Nat → Prop), us.length = ds.length → s + us.length ≤ ty.cts.length →
    DeepV T w F (.l e) (.slice (Option.some ⟨g, 0, none⟩) n cap) (.l rows) → F g →
    (∀ i ct u d, ty.cts[s + i]? = Option.some ct → us[i]? = Option.some u → ds[i]? = Option.some d → DeepV T w (G (s + i)) ct u d) →
    (∀ i b, s ≤ i → G i b → ¬ F b) → (∀ i i' b, G i b → G i' b → i = i') →
    ∃ F' : Nat → Prop, DeepV T (w.setCells g (k * ty.cts.length + s) us) F' (.l e) (.slice (Option.some ⟨g, 0, none⟩) n cap) (.l (rows.set k (overlay (rows.getD k []) s ds))) ∧ ∀ b, F' b → F b ∨ ∃ i, G i b
  | [], [], s, w, F, rows, G, _, _, h, _, _, _, _ => by
    refine ⟨F, ?_, fun b hb => .inl hb⟩
    have hl := h.len
    have hr : rows.set k (overlay (rows.getD k []) s []) = rows := by
      have e1 : overlay (rows.getD k []) s [] = rows.getD k [] := by simp [overlay]
      rw [e1, List.getD_eq_getElem?_getD, List.getElem?_eq_getElem (show k < rows.length by omega)]
      simp
    rw [hr]
    exact h
  | [], _ :: _, _, _, _, _, _, hl, _, _, _, _, _, _ => by cases hl
  | _ :: _, [], _, _, _, _, _, hl, _, _, _, _, _, _ => by cases hl
  | u :: us, d :: ds, s, w, F, rows, G, hl, hs, h, hF, hc, hd, hi => by
    have hn := h.len
    have hs' : s + (us.length + 1) ≤ ty.cts.length := hs
    have hsl : s < ty.cts.length := by omega
    obtain ⟨ty', xs, G0, a1, a2, a3, _⟩ := h.inv
    obtain rfl : ty = ty' := Option.some.inj (he.symm.trans a1)
    have hrow : rows[k]? = Option.some (rows.getD k []) := by simp [List.getD_eq_getElem?_getD, List.getElem?_eq_getElem (show k < rows.length by omega)]
    have hrl := a3 k _ hrow
    have h0 := hc 0 _ u d (List.getElem?_eq_getElem (show s + 0 < ty.cts.length by omega)) rfl rfl
    obtain ⟨F1, p1, p2, p3⟩ := DeepV.put h he hk (List.getElem?_eq_getElem hsl) rfl h0 (fun b hb => hd s b (Nat.le_refl _) (by simpa using hb))
    have hblk : ∀ b, b ≠ g → (w.setCell ⟨g, k * ty.cts.length + s, none⟩ u).heap[b]? = w.heap[b]? := fun b hb => by simp [World.setCell, Array.getElem?_modify, Ne.symm hb]
    obtain ⟨F', r1, r2⟩ := DeepV.puts he hk us ds (s + 1) _ F1 (setD rows k s d) G (by simpa using hl) (by omega) p1 p3 (fun i ct u' d' x1 x2 x3 => by
      have := hc (i + 1) ct u' d' (by rw [← x1]; congr 1; omega) (by simpa using x2) (by simpa using x3)
      rw [show s + (i + 1) = s + 1 + i by omega] at this
      exact this.move fun b hb => hblk b (fun hbg => hd _ b (by omega) hb (hbg ▸ hF))) (fun i b hi' hb hb1 => by
      rcases p2 b hb1 with hx | hx
      · exact hd i b (by omega) hb hx
      · have := hi _ _ b (show G (s + 0) b from hx) hb
        omega) hi
    refine ⟨F', ?_, fun b hb => ?_⟩
    · have e2 : (setD rows k s d).set k (overlay ((setD rows k s d).getD k []) (s + 1) ds) = rows.set k (overlay (rows.getD k []) s (d :: ds)) := by
        unfold setD
        rw [set_row (by omega), List.set_set, overlay_cons (by omega)]
      rw [← e2]
      exact r1
    · rcases r2 b hb with hx | hx
      · rcases p2 b hx with hy | hy
        · exact .inl hy
        · exact .inr ⟨_, hy⟩
      · exact .inr hx
end
variable {P : Program} {T : Tab} {W : Base} {N : Nat}
def stepPokeD (T : Tab) (o : Oper) (t : TypeId) (x y : Operand) : Pg :=
  match o.dst, T t with
  | none, some ty => rdv x fun sx => rdv y fun sy => match sx, sy with
    | .optr q j n k c p, .val ag cs => if ag = ty.agg ∧ cs.length = ty.cts.length ∧ p = 0 then movs cs fun cs' => match toDps ty.cts cs' with
        | some ds => look q j n fun ag0 cs0 own e rows => match T e with
          | some te => if own = true ∧ dpT T e = true ∧ te.cts.length = c ∧ te.cts = ty.cts then
              .chk (k < rows.length) (.setF 0 q (.val ag0 (cs0.set j (.sl true e (pokeRow rows k 0 ds)))) .done) else .fail
          | none => .fail
        | none => .fail
      else .fail
    | _, _ => .fail
  | _, _ => .fail
theorem pokeD_ok (hT : TabOk P T) {o : Oper} {t : TypeId} {x y : Operand} (ho : o.op = .store t x y) : OpOk P T W N o (stepPokeD T o t x y) := by
  intro E Q K Qx h hw hK
  unfold stepPokeD at hw
  split at hw
  · rename_i ty hd hty
    obtain ⟨sx, h1, _f1, h3⟩ := rdv_sound h hw (.slot N)
    obtain ⟨sy, h4, f4, h6⟩ := rdv_sound h h3 (.slot N)
    split at h6
    · rename_i q j n k c p ag cs
      split at h6
      · rename_i hlen
        obtain ⟨hag, hcsl, rfl⟩ := hlen
        obtain ⟨E', cs', us, r1, s1, c1, t1, e1, _, _, el, w1⟩ := movs_val h h4 (cellsFree_of_free f4) h6
        have hx := RelSV.step_free (l := .slot N) (sv := .optr q j n k c 0) h1 s1.step rfl
        split at w1
        · rename_i ds hds
          obtain ⟨d1, d2, d3⟩ := toDps_spec hds
          have hn : (E'.σ q).1 = n := by
            cases q with
            | slot t' => exact (lookAt_spec (show (lookAt (.slot t') j n _).wp Q E'.σ from w1)).1
            | cell t' j' =>
              have w1' := w1
              unfold look at w1'
              simp only [Pg.wp] at w1'
              split at w1'
              · split at w1'
                · exact (lookAt_spec w1').1
                · exact w1'.elim
              · exact w1'.elim
            | gen t' => exact w1.elim
          obtain ⟨x1, x2⟩ := hx
          obtain ⟨b, o', len, cap, y1, y2⟩ := x2 hn
          obtain ⟨ag0, cs0, own, e, rows, l1, l2, l3, l4, l5⟩ := look_sound r1 w1 (l := .slot N) (j := 0) ⟨x1, fun _ => y1⟩
          split at l5
          · rename_i te hte
            split at l5
            · rename_i hc
              obtain ⟨rfl, hdp, hcl, hct⟩ := hc
              obtain ⟨hk, hw'⟩ := l5
              rw [Pg.setF_eq] at hw'
              have hDq : DeepV T E'.w (E'.bk q j) (.l e) (.slice (some ⟨b, o', none⟩) len cap) (.l rows) := OwnF.deep l4 hdp
              have hTd : T.dp = true := by
                cases hq : T.dp with
                | true => rfl
                | false => unfold dpT at hdp; rw [hq] at hdp; cases hdp
              obtain ⟨ty', xs, G0, i1, i2, i3, i4, _⟩ := hDq.inv
              obtain rfl : te = ty' := Option.some.inj (hte.symm.trans i1)
              obtain ⟨cur, hv0, hcur, hcap, hcs⟩ : ∃ cur, o' = 0 ∧ E'.w.heap[b]? = some (.cells cur e (0, 0)) ∧ rows.length ≤ cap ∧ cur.size = cap * te.cts.length := by
                rcases i2.2 with ⟨hv, _⟩ | ⟨g, cap', cur, hv, g2, g3, g4, g5, g6, g7⟩
                · cases hv
                · simp only [Value.slice.injEq, Option.some.injEq, Addr.mk.injEq] at hv
                  obtain ⟨⟨rfl, rfl, _⟩, rfl, rfl⟩ := hv
                  exact ⟨cur, rfl, g3, g4, g6⟩
              subst hv0
              have hFg : E'.bk q j b := (i4 b).2 (.inl rfl)
              have hlr : len = rows.length := hDq.len
              have hul : us.length = ty.cts.length := el.trans hcsl
              have hqN : q ≠ .slot N := fun hq => by subst hq; exact r1.ghost l1 l2
              obtain ⟨F', p1, p2⟩ := DeepV.puts hte (k := k) (by rw [hlr]; exact hk) us ds 0 E'.w (E'.bk q j) rows (fun i b' => (∃ c', cs'[i]? = some c' ∧ c'.isOwn = true) ∧ E'.bk (.slot N) i b') (by omega) (by rw [hct]; omega) hDq hFg (fun i ct u d a1 a2 a3 => by
                have hi : i < cs'.length := by rw [d1, ← hul]; exact (List.getElem?_eq_some_iff.1 a2).1
                have hci : cs'[i]? = some cs'[i] := List.getElem?_eq_getElem hi
                have hr := (c1.2 i cs'[i] u hci a2).deepV hTd (d3 i ct _ d (by rw [← hct]; simpa using a1) hci a3)
                rw [Nat.zero_add] at hr ⊢
                have e2 : (fun b' => cs'[i].isOwn = true ∧ E'.bk (.slot N) i b') = fun b' => (∃ c', cs'[i]? = some c' ∧ c'.isOwn = true) ∧ E'.bk (.slot N) i b' := by
                  funext b'
                  refine propext ⟨fun ⟨z1, z2⟩ => ⟨⟨_, hci, z1⟩, z2⟩, fun ⟨⟨c', z0, z1⟩, z2⟩ => ?_⟩
                  obtain rfl := Option.some.inj (hci.symm.trans z0)
                  exact ⟨z1, z2⟩
                rw [← e2]
                exact hr) (fun i b' _ hb hb2 => hqN (r1.owinj _ _ _ _ _ hb2 hb.2).1) (fun i i' b' hb hb' => (r1.owinj _ _ _ _ _ hb.2 hb'.2).2)
              have hpk := r1.pokeD (g := b) (o := k * te.cts.length + 0) (us := us) (F' := F') (rows' := pokeRow rows k 0 ds) l1 l2 l3 hFg hdp (fun b' hb' => (p2 b' hb').imp id fun ⟨i, hi⟩ => ⟨i, hi.2⟩) p1
              rw [hcl] at hpk
              have hthere : E'.w.there b (k * c + 0) us.length := by
                intro i hi
                have hkc : (k + 1) * te.cts.length ≤ cap * te.cts.length := Nat.mul_le_mul_right _ (by omega)
                rw [Nat.succ_mul, hcl] at hkc
                have htl : te.cts.length = ty.cts.length := by rw [hct]
                have hlt : k * c + 0 + i < cur.size := by rw [hcs, hcl]; omega
                refine ⟨?_, ?_⟩
                · rw [cell_of_row _ _ _ cur e (0, 0) hcur, Array.getElem?_eq_getElem hlt]; rfl
                · unfold World.frozen?
                  rw [hcur]
                  simp
              have hrun := run_store hT ho hty (E := E') (b := b) (p := k * c + 0) (by rw [s1.a]; rw [y2]; simp) (us := us) (by rw [s1.a]; exact e1) hul (c1.one t1) hthere
              refine s1.run ?_
              unfold Oper.wp
              rw [hrun, Oper.upon_skip, hd]
              exact hK _ hpk hw'
            · exact l5.elim
          · exact l5.elim
        · exact w1.elim
      · exact h6.elim
    · exact h6.elim
  · exact hw.elim
def ctL : CT → Bool
  | .l _ => true
  | _ => false
def stepStoreAny2 (T : Tab) (o : Oper) (t : TypeId) (x y : Operand) : Pg :=
  match T.dp, (T t).elim false (fun ty => ty.cts.any ctL) with
  | true, true => rdv x fun sx => match sx with
    | .optr .. => stepPokeD T o t x y
    | _ => stepStoreAny T o t x y
  | _, _ => stepStoreAny T o t x y
theorem storeAny2_ok (hT : TabOk P T) {o : Oper} {t : TypeId} {x y : Operand} (ho : o.op = .store t x y) : OpOk P T W N o (stepStoreAny2 T o t x y) := by
  intro E Q K Qx h hw hK
  unfold stepStoreAny2 at hw
  split at hw
  · obtain ⟨sx, h1, _f1, h3⟩ := rdv_sound h hw (.slot N)
    split at h3
    · exact pokeD_ok hT ho E Q K Qx h h3 hK
    · exact storeAny_ok hT ho E Q K Qx h h3 hK
  · exact storeAny_ok hT ho E Q K Qx h hw hK
end Go.Proofs.YtaecbmjmcpdgdaaGreat.Ab
