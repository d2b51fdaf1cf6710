/- Variables are made and stored into; an owned slice grows. No program in sight. -/
import Derived.Test.YtijnlnmoellbaaaGreatAb7
namespace Go.Proofs.YtijnlnmoellbaaaGreat.Ab
open Go.RowKit
variable {P : Program} {T : Tab} {W : Base} {N : Nat}

/-- Cells p, p + 1, .. of variable b take contents. -/
def boxed (b : Nat) : Nat → List CV → St → St
  | _, [], σ => σ
  | p, c :: r, σ => boxed b (p + 1) r (upd σ (.cell b p) (.val false [c]))
def setBox (b : Nat) : Nat → List CV → Pg → Pg
  | _, [], k => k
  | p, c :: r, k => .setF 1 (.cell b p) (.val false [c]) (setBox b (p + 1) r k)
theorem setBox_wp {b : Nat} : ∀ {cs : List CV} {p : Nat} {k : Pg} {Q : St → Prop} {σ : St}, (setBox b p cs k).wp Q σ ↔ k.wp Q (boxed b p cs σ)
  | [], _, _, _, _ => Iff.rfl
  | c :: r, p, k, Q, σ => by
    unfold setBox
    rw [Pg.setF_eq]
    exact setBox_wp (cs := r) (p := p + 1) (k := k) (Q := Q) (σ := upd σ (.cell b p) (.val false [c]))
theorem boxed_out {b : Nat} : ∀ {cs : List CV} {p : Nat} {σ : St} {l : Loc}, (∀ j, j < cs.length → l ≠ .cell b (p + j)) → boxed b p cs σ l = σ l
  | [], _, _, _, _ => rfl
  | c :: r, p, σ, l, h => by
    show boxed b (p + 1) r _ l = _
    rw [boxed_out (fun j hj => by rw [show p + 1 + j = p + (j + 1) by omega]; exact h (j + 1) (by simpa using hj)), upd_other (by simpa using h 0 (by simp))]
theorem boxed_in {b : Nat} : ∀ {cs : List CV} {p : Nat} {σ : St} {j : Nat} {c : CV}, cs[j]? = some c → boxed b p cs σ (.cell b (p + j)) = ((σ (.cell b (p + j))).1 + 1, .val false [c])
  | [], _, _, _, _, h => by simp at h
  | c0 :: r, p, σ, 0, c, h => by
    obtain rfl := Option.some.inj h
    show boxed b (p + 1) r _ _ = _
    rw [boxed_out (fun j hj => by simp; omega)]
    exact upd_same
  | c0 :: r, p, σ, j + 1, c, h => by
    show boxed b (p + 1) r _ _ = _
    rw [show p + (j + 1) = p + 1 + j by omega, boxed_in (by simpa using h), upd_other (by simp; omega)]

/-- What a state says where variable b has just been made of cells cs, and slot b points to it. -/
def Env.made (E : Env) (N b : Nat) (cs : List CV) (o : Obj) : Env :=
  { x0 := E.x0
    σ := upd (upd (boxed b 0 cs E.σ) (.gen b) (.num cs.length)) (.slot b) (.ptr b ((E.σ (.gen b)).1 + 1) 0)
    a := E.a.put (some b) (.pointer (some ⟨E.w.heap.size, 0, none⟩))
    w := E.w.alloc o
    β := fun t => if t = b then E.w.heap.size else E.β t
    bk := fun l j => match l with
      | .cell t i => if t = b then (if j = 0 ∧ i < cs.length then E.bk (.slot N) i else none) else E.bk l j
      | .slot t => if t = b ∨ t = N then none else E.bk l j
      | .gen _ => E.bk l j }
section made
variable {E : Env} {b : Nat} {cs : List CV} {o : Obj}
theorem made_σ : (E.made N b cs o).σ = upd (upd (boxed b 0 cs E.σ) (.gen b) (.num cs.length)) (.slot b) (.ptr b ((E.σ (.gen b)).1 + 1) 0) := rfl
theorem made_gen {t : Nat} : ((E.made N b cs o).σ (.gen t)) = if t = b then ((E.σ (.gen b)).1 + 1, .num cs.length) else E.σ (.gen t) := by
  rw [made_σ, upd_other (by simp)]
  by_cases h : t = b
  · subst h
    rw [if_pos rfl, upd_same, boxed_out (fun j _ => by simp)]
  · rw [if_neg h, upd_other (by simpa using h), boxed_out (fun j _ => by simp)]
theorem made_slot {t : Nat} (h : t ≠ b) : (E.made N b cs o).σ (.slot t) = E.σ (.slot t) := by
  rw [made_σ, upd_other (by simpa using h), upd_other (by simp), boxed_out (fun j _ => by simp)]
theorem made_slot_b : ((E.made N b cs o).σ (.slot b)).2 = .ptr b ((E.σ (.gen b)).1 + 1) 0 := by
  rw [made_σ, upd_same]
theorem made_slot_ver : ((E.made N b cs o).σ (.slot b)).1 = (E.σ (.slot b)).1 + 1 := by
  rw [made_σ, upd_same, upd_other (by simp), boxed_out (fun j _ => by simp)]
theorem made_cell_in {j : Nat} {c : CV} (h : cs[j]? = some c) : (E.made N b cs o).σ (.cell b j) = ((E.σ (.cell b j)).1 + 1, .val false [c]) := by
  rw [made_σ, upd_other (by simp), upd_other (by simp)]
  have := boxed_in (b := b) (p := 0) (σ := E.σ) h
  rwa [Nat.zero_add] at this
theorem made_cell_out {t j : Nat} (h : t ≠ b ∨ cs.length ≤ j) : (E.made N b cs o).σ (.cell t j) = E.σ (.cell t j) := by
  rw [made_σ, upd_other (by simp), upd_other (by simp), boxed_out (fun i hi => by simp; intro _; omega)]
theorem made_alive {t : Nat} : (E.made N b cs o).alive t ↔ t = b ∨ E.alive t := by
  unfold Env.alive
  rw [made_gen]
  by_cases h : t = b
  · simp [h]
  · simp [h]
theorem made_bk {l : Loc} {j x : Nat} (h : (E.made N b cs o).bk l j = some x) : (∃ i, l = .cell b i ∧ j = 0 ∧ i < cs.length ∧ E.bk (.slot N) i = some x) ∨ (E.bk l j = some x ∧ l ≠ .slot N ∧ l ≠ .slot b ∧ ∀ i, l ≠ .cell b i) := by
  cases l with
  | slot t =>
    simp only [Env.made] at h
    split at h
    · cases h
    · rename_i hne
      exact .inr ⟨h, by simp; omega, by simp; omega, fun i => by simp⟩
  | cell t i =>
    simp only [Env.made] at h
    split at h
    · rename_i ht
      subst ht
      split at h
      · rename_i hc
        exact .inl ⟨i, rfl, hc.1, hc.2, h⟩
      · cases h
    · rename_i ht
      exact .inr ⟨h, by simp, by simp, fun i => by simp [ht]⟩
  | gen t => exact .inr ⟨h, by simp, by simp, fun i => by simp⟩
theorem made_step (h : Rel T W N E) (hold : ∀ m, (E.σ (.gen b)).2 = .num m → m = cs.length) : Step E (E.made N b cs o) := by
  refine ⟨fun q => ?_, fun t hg => ?_, ⟨by simp [Env.made], fun k hk _ => Below.heap_alloc _ _ _ hk⟩, fun x hx hX => ?_⟩
  · cases q with
    | slot t =>
      by_cases e : t = b
      · subst e
        rw [made_slot_ver]
        exact ⟨by omega, fun h => absurd h (by omega)⟩
      · rw [made_slot e]
        refine ⟨Nat.le_refl _, fun _ i => ?_⟩
        show ((E.a.put (some b) _).tmps.getD t undef).cells[i]? = _
        rw [getD_put_ne e]; rfl
    | gen t =>
      rw [made_gen]
      by_cases e : t = b
      · subst e; simp
      · simp only [e, if_false]; exact ⟨Nat.le_refl _, fun _ _ => rfl⟩
    | cell t j =>
      by_cases e : t = b
      · subst e
        by_cases hj : j < cs.length
        · rw [made_cell_in (List.getElem?_eq_getElem hj)]
          exact ⟨by simp, fun h => absurd h (by simp)⟩
        · rw [made_cell_out (.inr (by omega))]
          refine ⟨Nat.le_refl _, fun _ i => ?_⟩
          show (E.made N t cs o).cellAt t j ((E.made N t cs o).σ (.gen t)).2 = E.cellAt t j (E.σ (.gen t)).2
          rw [made_gen, if_pos rfl]
          show (if _ then _ else _) = _
          rw [if_neg hj]
          cases hs : (E.σ (.gen t)).2 with
          | num m =>
            have := hold m hs
            show _ = (if _ then _ else _)
            rw [if_neg (by omega)]
          | _ => rfl
      · rw [made_cell_out (.inl e)]
        refine ⟨Nat.le_refl _, fun _ i => ?_⟩
        refine Env.cellAt_congr (fun m => by rw [made_gen, if_neg e]) (fun m hm => ?_)
        have hb : (E.made N b cs o).β t = E.β t := by simp [Env.made, e]
        rw [hb]
        exact World.cell?_of_block (w := E.w) (Below.heap_alloc _ _ _ (h.bxlo t ⟨m, hm⟩).2)
  · rw [made_gen] at hg
    by_cases e : t = b
    · subst e; simp at hg
    · simp [Env.made, e]
  · rcases hX with hX | ⟨t, ht, rfl⟩ | ⟨l, j, hl⟩
    · exact .inl hX
    · rcases made_alive.1 ht with rfl | ht'
      · simp [Env.made] at hx
      · by_cases e : t = b
        · subst e; simp [Env.made] at hx
        · exact .inr (.inl ⟨t, ht', by simp [Env.made, e]⟩)
    · rcases made_bk hl with ⟨i, _, _, _, h4⟩ | ⟨h1, _⟩
      · exact .inr (.inr ⟨_, i, h4⟩)
      · exact .inr (.inr ⟨l, j, h1⟩)
theorem Rel.made (h : Rel T W N E) (hold : ∀ m, (E.σ (.gen b)).2 = .num m → m = cs.length) (hb : b < N) {us : List Value} {et : TypeId} (hc : CellsR T W E (.slot N) 0 cs us) (ho : o = .cells us.toArray et) : Rel T W N (E.made N b cs o) := by
  have s : Step E (E.made N b cs o) := made_step h hold
  have hnew : (E.w.alloc o).heap[E.w.heap.size]? = some o := heap_alloc_new _ _
  have hWle : W.heap.size ≤ E.w.heap.size := h.base.size
  have hbk0 : ∀ {l j x}, (E.made N b cs o).bk l j = some x → W.mine x ∧ x < E.w.heap.size := fun hl => by
    rcases made_bk hl with ⟨i, _, _, _, h4⟩ | ⟨h1, _⟩
    · exact h.owlo _ _ _ h4
    · exact h.owlo _ _ _ h1
  refine h.next s (h.base.alloc o) (by rw [← h.defers]; rfl) (by rw [← h.size]; exact size_put) (fun t => ?_) (fun t m j hm hj => ?_) (fun t ha => ?_) (fun t t' ha ha' he => ?_)
    (fun l j x hl => ⟨(hbk0 hl).1, by have := (hbk0 hl).2; simp [Env.made]; omega⟩) (fun l j l' j' x hl hl' => ?_) (fun l j x t hl ha => ?_) rfl (by simp only [Env.made]; rw [if_neg (by omega)])
  · by_cases e : t = b
    · subst e
      right
      have e1 : (E.made N t cs o).a.tmps.getD t undef = .pointer (some ⟨E.w.heap.size, 0, none⟩) := getD_put_same (by rw [h.size]; exact hb)
      rw [e1, made_slot_b]
      refine ⟨by rw [made_gen, if_pos rfl]; exact Nat.le_refl _, fun _ => by simp [Env.made]⟩
    · by_cases eN : t = N
      · subst eN
        right
        have e1 : (E.made t b cs o).a.tmps.getD t undef = E.a.tmps.getD t undef := getD_put_ne e
        rw [e1, made_slot e]
        exact (h.slot t).step s (fun ag cs' j e rows he hcc => (h.ghost he hcc).elim)
      · left
        refine ⟨by rw [made_slot e], getD_put_ne e, fun j => ⟨by simp [Env.made, e, eN], fun x hx => Below.heap_alloc _ _ _ (h.owlo _ _ _ hx).2⟩⟩
  · by_cases e : t = b
    · subst e
      right
      rw [made_gen, if_pos rfl] at hm
      obtain rfl : cs.length = m := by simpa using hm
      have hju : j < us.length := hc.1 ▸ hj
      have hβ : (E.made N t cs o).β t = E.w.heap.size := by simp [Env.made]
      have hcell : (E.made N t cs o).w.cell? ⟨E.w.heap.size, j, none⟩ = some us[j] := by
        show (E.w.alloc o).cell? _ = _
        rw [cell_of_row _ _ _ us.toArray et (0, 0) (by rw [hnew, ho])]
        simp [hju]
      have hfro : (E.made N t cs o).w.frozen? ⟨E.w.heap.size, j, none⟩ = false := by
        show (E.w.alloc o).frozen? _ = _
        unfold World.frozen?
        rw [hnew, ho]
        simp
      refine ⟨cs[j], us[j], by rw [made_cell_in (List.getElem?_eq_getElem hj)], by rw [hβ]; exact hcell, by rw [hβ]; exact hfro, ?_⟩
      have := hc.2 j cs[j] us[j] (List.getElem?_eq_getElem hj) (List.getElem?_eq_getElem hju)
      rw [Nat.zero_add] at this
      cases hcj : cs[j] with
      | sl own e rows =>
        cases own with
        | true =>
          rw [hcj] at this
          refine ⟨this.1.move s.keep s.less (fun x hx => Below.heap_alloc _ _ _ (h.owlo _ _ _ (this.2.symm.trans hx)).2), ?_⟩
          rw [this.2]
          simp [Env.made, hj]
        | false => rw [hcj] at this; exact RelCV.step (l := .slot N) (j := j) (c := .sl false e rows) this s (fun _ _ he => by cases he)
      | i k n => rw [hcj] at this; exact this
      | b x => rw [hcj] at this; exact this
      | s x => rw [hcj] at this; exact this
      | al q i n => rw [hcj] at this; exact RelCV.step (l := .slot N) (j := j) (c := .al q i n) this s (fun _ _ he => by cases he)
      | dead => trivial
    · left
      rw [made_gen, if_neg e] at hm
      have ha : E.alive t := ⟨m, hm⟩
      have hβ : (E.made N b cs o).β t = E.β t := by simp [Env.made, e]
      have hheap : (E.made N b cs o).w.heap[E.β t]? = E.w.heap[E.β t]? := Below.heap_alloc _ _ _ (h.bxlo t ha).2
      refine ⟨hm, by rw [made_cell_out (.inl e)], by rw [hβ]; exact World.cell?_of_block (w := E.w) hheap, by rw [hβ]; exact World.frozen?_of_block (w := E.w) hheap, by simp [Env.made, e], fun x hx => Below.heap_alloc _ _ _ (h.owlo _ _ _ hx).2⟩
  · by_cases e : t = b
    · subst e
      simp only [Env.made, if_true, World.size_alloc]
      exact ⟨.inl hWle, by omega⟩
    · have ha' : E.alive t := (made_alive.1 ha).resolve_left e
      have := h.bxlo t ha'
      simp only [Env.made, e, if_false, World.size_alloc]
      exact ⟨this.1, by omega⟩
  · by_cases e : t = b
    · by_cases e' : t' = b
      · rw [e, e']
      · have := (h.bxlo t' ((made_alive.1 ha').resolve_left e')).2
        simp only [Env.made, e, e', if_true, if_false] at he
        omega
    · by_cases e' : t' = b
      · have := (h.bxlo t ((made_alive.1 ha).resolve_left e)).2
        simp only [Env.made, e, e', if_true, if_false] at he
        omega
      · simp only [Env.made, e, e', if_false] at he
        exact h.bxinj t t' ((made_alive.1 ha).resolve_left e) ((made_alive.1 ha').resolve_left e') he
  · rcases made_bk hl with ⟨i, rfl, rfl, h3, h4⟩ | ⟨h1, n1, n2, n3⟩
    · rcases made_bk hl' with ⟨i', rfl, rfl, h3', h4'⟩ | ⟨h1', n1', n2', n3'⟩
      · obtain ⟨_, rfl⟩ := h.owinj _ _ _ _ _ h4 h4'
        exact ⟨rfl, rfl⟩
      · exact absurd (h.owinj _ _ _ _ _ h4 h1').1.symm n1'
    · rcases made_bk hl' with ⟨i', rfl, rfl, h3', h4'⟩ | ⟨h1', n1', n2', n3'⟩
      · exact absurd (h.owinj _ _ _ _ _ h1 h4').1 n1
      · exact h.owinj _ _ _ _ _ h1 h1'
  · have hx := (hbk0 hl).2
    by_cases e : t = b
    · subst e; simp only [Env.made, if_true]; omega
    · have ha' : E.alive t := (made_alive.1 ha).resolve_left e
      have hβ : (E.made N b cs o).β t = E.β t := by simp [Env.made, e]
      rw [hβ]
      rcases made_bk hl with ⟨i, _, _, _, h4⟩ | ⟨h1, _⟩
      · exact h.owbx _ _ _ _ h4 ha'
      · exact h.owbx _ _ _ _ h1 ha'
end made
end Go.Proofs.YtijnlnmoellbaaaGreat.Ab
