/- Stores into variables; an owned slice grows or is made. No program in sight. -/
import Derived.Test.YtijnlnmoellbaaaGreatAb8
import Derived.Deep.AppendSrc
namespace Go.Proofs.YtijnlnmoellbaaaGreat.Ab
open Go.RowKit
variable {P : Program} {T : Tab} {W : Base} {N : Nat}

theorem setCells_frame (b : Nat) : ∀ (vs : List Value) (o : Nat) (w : World), (w.setCells b o vs).os = w.os ∧ (w.setCells b o vs).tape = w.tape ∧ (w.setCells b o vs).output = w.output ∧ (w.setCells b o vs).heap.size = w.heap.size ∧ ∀ k, k ≠ b → (w.setCells b o vs).heap[k]? = w.heap[k]?
  | [], o, w => ⟨rfl, rfl, rfl, rfl, fun _ _ => rfl⟩
  | v :: r, o, w => by
    obtain ⟨a1, a2, a3, a4, a5⟩ := setCells_frame b r (o + 1) (w.setCell ⟨b, o, none⟩ v)
    refine ⟨a1, a2, a3, a4.trans (by simp [World.setCell]), fun k hk => (a5 k hk).trans (Below.heap_setCell _ _ _ _ hk)⟩

/-- Cells p, p + 1, .. of variable b have been stored to. -/
def Env.stored (E : Env) (N b p : Nat) (cs : List CV) (us : List Value) : Env :=
  { E with
    σ := boxed b p cs E.σ
    w := E.w.setCells (E.β b) p us
    bk := fun l j => match l with
      | .cell t i => if t = b ∧ p ≤ i ∧ i < p + cs.length then (if j = 0 then E.bk (.slot N) (i - p) else none) else E.bk l j
      | .slot t => if t = N then none else E.bk l j
      | .gen _ => E.bk l j }
section stored
variable {E : Env} {b p : Nat} {cs : List CV} {us : List Value}
theorem stored_σ : (E.stored N b p cs us).σ = boxed b p cs E.σ := rfl
theorem stored_gen {t : Nat} : (E.stored N b p cs us).σ (.gen t) = E.σ (.gen t) := by rw [stored_σ, boxed_out (fun j _ => by simp)]
theorem stored_slot {t : Nat} : (E.stored N b p cs us).σ (.slot t) = E.σ (.slot t) := by rw [stored_σ, boxed_out (fun j _ => by simp)]
theorem stored_cell_in {j : Nat} {c : CV} (h : cs[j]? = some c) : (E.stored N b p cs us).σ (.cell b (p + j)) = ((E.σ (.cell b (p + j))).1 + 1, .val false [c]) := by rw [stored_σ, boxed_in h]
theorem stored_cell_out {t i : Nat} (h : ¬ (t = b ∧ p ≤ i ∧ i < p + cs.length)) : (E.stored N b p cs us).σ (.cell t i) = E.σ (.cell t i) := by
  rw [stored_σ, boxed_out (fun j hj => by simp; intro h1; subst h1; intro h2; subst h2; exact h ⟨rfl, by omega, by omega⟩)]
theorem stored_alive {t : Nat} : (E.stored N b p cs us).alive t ↔ E.alive t := by unfold Env.alive; rw [stored_gen]
theorem stored_bk {l : Loc} {j x : Nat} (h : (E.stored N b p cs us).bk l j = some x) : (∃ i, l = .cell b (p + i) ∧ j = 0 ∧ i < cs.length ∧ E.bk (.slot N) i = some x) ∨ (E.bk l j = some x ∧ l ≠ .slot N ∧ ∀ i, i < cs.length → l ≠ .cell b (p + i)) := by
  cases l with
  | slot t =>
    simp only [Env.stored] at h
    split at h
    · cases h
    · rename_i hne
      exact .inr ⟨h, by simpa using hne, fun i _ => by simp⟩
  | cell t i =>
    simp only [Env.stored] at h
    split at h
    · rename_i ht
      obtain ⟨rfl, h1, h2⟩ := ht
      split at h
      · rename_i hj
        exact .inl ⟨i - p, by rw [show p + (i - p) = i by omega], hj, by omega, h⟩
      · cases h
    · rename_i ht
      exact .inr ⟨h, by simp, fun i' hi' e => by simp only [Loc.cell.injEq] at e; exact ht ⟨e.1, by omega, by omega⟩⟩
  | gen t => exact .inr ⟨h, by simp, fun i _ => by simp⟩
theorem Rel.stored (h : Rel T W N E) {m : Nat} (hm : (E.σ (.gen b)).2 = .num m) (hp : p + cs.length ≤ m) (hc : CellsR T W E (.slot N) 0 cs us) : Rel T W N (E.stored N b p cs us) := by
  obtain ⟨f1, f2, f3, f4, f5⟩ := setCells_frame (E.β b) us p E.w
  have hab : E.alive b := ⟨m, hm⟩
  have hsz : (E.stored N b p cs us).w.heap.size = E.w.heap.size := f4
  have hX : ∀ x, x < E.w.heap.size → (E.stored N b p cs us).X x → E.X x := fun x _ hx => by
    rcases hx with hx | ⟨t, ht, rfl⟩ | ⟨l, j, hl⟩
    · exact .inl hx
    · exact .inr (.inl ⟨t, stored_alive.1 ht, rfl⟩)
    · rcases stored_bk hl with ⟨i, _, _, _, h4⟩ | ⟨h1, _⟩
      · exact .inr (.inr ⟨_, _, h4⟩)
      · exact .inr (.inr ⟨_, _, h1⟩)
  have hback : ∀ {l j x}, (E.stored N b p cs us).bk l j = some x → ∃ l0 j0, E.bk l0 j0 = some x := fun hl => by
    rcases stored_bk hl with ⟨i, _, _, _, h4⟩ | ⟨h1, _⟩
    · exact ⟨_, _, h4⟩
    · exact ⟨_, _, h1⟩
  have hcellout : ∀ t i, E.alive t → ¬ (t = b ∧ p ≤ i ∧ i < p + cs.length) → (E.stored N b p cs us).w.cell? ⟨E.β t, i, none⟩ = E.w.cell? ⟨E.β t, i, none⟩ := fun t i ha hn => by
    refine World.cell?_setCells_out (E.β b) us p E.w _ (fun hb _ => ?_)
    have : t = b := h.bxinj t b ha hab hb
    have := hc.1
    simp only
    omega
  have s : Step E (E.stored N b p cs us) := by
    refine ⟨fun q => ?_, fun t _ => rfl, ⟨by rw [hsz]; exact Nat.le_refl _, fun x hx hn => f5 x (fun e => hn (.inr (.inl ⟨b, hab, e⟩)))⟩, hX⟩
    cases q with
    | slot t => rw [stored_slot]; exact ⟨Nat.le_refl _, fun _ _ => rfl⟩
    | gen t => rw [stored_gen]; exact ⟨Nat.le_refl _, fun _ _ => rfl⟩
    | cell t i =>
      by_cases hin : t = b ∧ p ≤ i ∧ i < p + cs.length
      · obtain ⟨rfl, h1, h2⟩ := hin
        have := stored_cell_in (N := N) (E := E) (b := t) (p := p) (us := us) (List.getElem?_eq_getElem (show i - p < cs.length by omega))
        rw [show p + (i - p) = i by omega] at this
        rw [this]
        exact ⟨by simp, fun h => absurd h (by simp)⟩
      · rw [stored_cell_out hin]
        refine ⟨Nat.le_refl _, fun _ i' => ?_⟩
        exact Env.cellAt_congr (fun m => by rw [stored_gen]) (fun m' hm' => hcellout t i ⟨m', hm'⟩ hin)
  have hblk : ∀ l j x, E.bk l j = some x → (E.stored N b p cs us).w.heap[x]? = E.w.heap[x]? := fun l j x hx => f5 x (h.owbx l j x b hx hab)
  refine h.next s ?_ h.defers h.size (fun t => ?_) (fun t m' j hm' hj => ?_) (fun t ha => by rw [hsz]; exact h.bxlo t (stored_alive.1 ha)) (fun t t' ha ha' he => h.bxinj t t' (stored_alive.1 ha) (stored_alive.1 ha') he) (fun l j x hl => ?_) (fun l j l' j' x hl hl' => ?_) (fun l j x t hl ha => ?_)
  · exact h.base.next f1 f2 f3 (by rw [hsz]; exact Nat.le_refl _) (fun k hk hn => f5 k (fun e => hn (e ▸ (h.bxlo b hab).1)))
  · by_cases eN : t = N
    · subst eN
      right
      rw [stored_slot]
      exact (h.slot t).step s (fun ag cs' j e rows he hcc => (h.ghost he hcc).elim)
    · left
      exact ⟨by rw [stored_slot], rfl, fun j => ⟨by simp [Env.stored, eN], fun x hx => hblk _ _ x hx⟩⟩
  · rw [stored_gen] at hm'
    by_cases hin : t = b ∧ p ≤ j ∧ j < p + cs.length
    · right
      obtain ⟨rfl, h1, h2⟩ := hin
      have hjc : j - p < cs.length := by omega
      have hju : j - p < us.length := hc.1 ▸ hjc
      have hcell : (E.w.setCells (E.β t) p us).cell? ⟨E.β t, p + (j - p), none⟩ = some us[j - p] :=
        World.cell?_setCells_in (E.β t) us p E.w (fun i hi => by
          obtain ⟨c, v, _, e2, _⟩ := h.cell t m (p + i) hm (by have := hc.1; omega)
          rw [e2]; rfl) (j - p) hju
      have hfr : (E.w.setCells (E.β t) p us).frozen? ⟨E.β t, j, none⟩ = false := by
        rw [World.frozen?_setCells]
        obtain ⟨c, v, _, _, e3, _⟩ := h.cell t m' j hm' hj
        exact e3
      rw [show p + (j - p) = j by omega] at hcell
      have hσ := stored_cell_in (N := N) (E := E) (b := t) (p := p) (us := us) (List.getElem?_eq_getElem hjc)
      rw [show p + (j - p) = j by omega] at hσ
      refine ⟨cs[j - p], us[j - p], by rw [hσ], hcell, hfr, ?_⟩
      have := hc.2 (j - p) cs[j - p] us[j - p] (List.getElem?_eq_getElem hjc) (List.getElem?_eq_getElem hju)
      rw [Nat.zero_add] at this
      cases hcj : cs[j - p] with
      | sl own e rows =>
        cases own with
        | true =>
          rw [hcj] at this
          refine ⟨this.1.move s.keep s.less (fun x hx => hblk _ _ x (this.2.symm.trans hx)), ?_⟩
          rw [this.2]
          simp [Env.stored, h1, h2]
        | false => rw [hcj] at this; exact RelCV.step (l := .slot N) (j := j - p) (c := .sl false e rows) this s (fun _ _ he => by cases he)
      | i k n => rw [hcj] at this; exact this
      | b x => rw [hcj] at this; exact this
      | s x => rw [hcj] at this; exact this
      | al q i n => rw [hcj] at this; exact RelCV.step (l := .slot N) (j := j - p) (c := .al q i n) this s (fun _ _ he => by cases he)
      | dead => trivial
    · left
      refine ⟨hm', by rw [stored_cell_out hin], hcellout t j ⟨m', hm'⟩ hin, World.frozen?_setCells _ _ _ _ _, ?_, fun x hx => hblk _ _ x hx⟩
      simp only [Env.stored]
      rw [if_neg hin]
  · obtain ⟨l0, j0, h0⟩ := hback hl
    rw [hsz]; exact h.owlo _ _ _ h0
  · rcases stored_bk hl with ⟨i, rfl, rfl, h3, h4⟩ | ⟨h1, n1, n2⟩
    · rcases stored_bk hl' with ⟨i', rfl, rfl, h3', h4'⟩ | ⟨h1', n1', n2'⟩
      · obtain ⟨_, rfl⟩ := h.owinj _ _ _ _ _ h4 h4'
        exact ⟨rfl, rfl⟩
      · exact absurd (h.owinj _ _ _ _ _ h4 h1').1.symm n1'
    · rcases stored_bk hl' with ⟨i', rfl, rfl, h3', h4'⟩ | ⟨h1', n1', n2'⟩
      · exact absurd (h.owinj _ _ _ _ _ h1 h4').1 n1
      · exact h.owinj _ _ _ _ _ h1 h1'
  · obtain ⟨l0, j0, h0⟩ := hback hl
    exact h.owbx _ _ _ _ h0 (stored_alive.1 ha)
end stored

/-! A slot takes an owned slice in a world that has grown, or whose ghost row has been written -/
def Env.grown (E : Env) (N d : Nat) (v : Value) (sv : SV) (w' : World) : Env :=
  { E with σ := upd E.σ (.slot d) sv, a := E.a.put (some d) v, w := w', bk := fun l j => if l = .slot d then (if j = 0 then v.ownBlock else none) else if l = .slot N then none else E.bk l j }
theorem Rel.grown {E : Env} (h : Rel T W N E) {d : Nat} {v : Value} {e : TypeId} {rows : List (List D)} {w' : World} (hd : d < N) (hg : E.w.grownBy w' (E.bk (.slot N) 0))
    (hblk : ∀ x, v.ownBlock = some x → (E.bk (.slot N) 0 = some x ∨ E.w.heap.size ≤ x) ∧ x < w'.heap.size)
    (hown : Step E (E.grown N d v (.val false [.sl true e rows]) w') → Own T w' (E.grown N d v (.val false [.sl true e rows]) w').X 0 e v rows) :
    Rel T W N (E.grown N d v (.val false [.sl true e rows]) w') := by
  generalize hE : E.grown N d v (.val false [.sl true e rows]) w' = E' at *
  have hσ : E'.σ = upd E.σ (.slot d) (.val false [.sl true e rows]) := by rw [← hE]; rfl
  have hw : E'.w = w' := by rw [← hE]; rfl
  have ha : E'.a = E.a.put (some d) v := by rw [← hE]; rfl
  have hβ : E'.β = E.β := by rw [← hE]; rfl
  have hx0 : E'.x0 = E.x0 := by rw [← hE]; rfl
  have hbk : E'.bk = fun l j => if l = .slot d then (if j = 0 then v.ownBlock else none) else if l = .slot N then none else E.bk l j := by rw [← hE]; rfl
  have hdN : (Loc.slot N) ≠ (Loc.slot d) := by simp; omega
  have hal : ∀ {t}, E'.alive t ↔ E.alive t := fun {t} => by
    unfold Env.alive; rw [hσ, upd_other (show Loc.gen t ≠ Loc.slot d by simp)]
  have bkc : ∀ {l j x}, E'.bk l j = some x → (l = .slot d ∧ j = 0 ∧ v.ownBlock = some x) ∨ (l ≠ .slot d ∧ l ≠ .slot N ∧ E.bk l j = some x) := fun {l j x} hl => by
    rw [hbk] at hl
    simp only at hl
    split at hl
    · rename_i h1
      split at hl
      · rename_i h2; exact .inl ⟨h1, h2, hl⟩
      · cases hl
    · rename_i h1
      split at hl
      · cases hl
      · rename_i h2; exact .inr ⟨h1, h2, hl⟩
  have heap : ∀ x, x < E.w.heap.size → E.bk (.slot N) 0 ≠ some x → w'.heap[x]? = E.w.heap[x]? := fun x hx hn => hg.block x hx (fun e => hn e.symm)
  have hgb : ∀ x, E.bk (.slot N) 0 = some x → E.X x := fun x hx => .inr (.inr ⟨_, _, hx⟩)
  have s : Step E E' := by
    refine ⟨fun q => ?_, fun t _ => by rw [hβ], ⟨by rw [hw]; exact hg.size, fun x hx hn => by rw [hw]; exact heap x hx (fun e => hn (hgb x e))⟩, fun x hx hX => ?_⟩
    · by_cases e : q = .slot d
      · subst e
        rw [hσ, upd_same]
        exact ⟨by simp, fun h => absurd h (by simp)⟩
      · rw [hσ, upd_other e]
        refine ⟨Nat.le_refl _, fun _ i => ?_⟩
        cases q with
        | slot t =>
          have : t ≠ d := fun h => e (by rw [h])
          show (E'.a.tmps.getD t undef).cells[i]? = _
          rw [ha, getD_put_ne this]; rfl
        | cell t j =>
          refine Env.cellAt_congr (fun m => by rw [hσ, upd_other (by simp)]) (fun m hm => ?_)
          rw [hβ, hw]
          have hat : E.alive t := ⟨m, hm⟩
          exact World.cell?_of_block (w := E.w) (heap _ (h.bxlo t hat).2 (fun hx => h.owbx _ _ _ t hx hat rfl))
        | gen t => rfl
    · rcases hX with hX | ⟨t, ht, rfl⟩ | ⟨l, j, hl⟩
      · rw [hx0] at hX; exact .inl hX
      · exact .inr (.inl ⟨t, hal.1 ht, by rw [hβ]⟩)
      · rcases bkc hl with ⟨_, _, h3⟩ | ⟨_, _, h3⟩
        · rcases (hblk x h3).1 with h4 | h4
          · exact hgb x h4
          · omega
        · exact .inr (.inr ⟨l, j, h3⟩)
  have hkeep : ∀ l j x, l ≠ .slot N → E.bk l j = some x → E'.w.heap[x]? = E.w.heap[x]? := fun l j x hl hx => by
    rw [hw]; exact heap x (h.owlo _ _ _ hx).2 (fun e => hl (h.owinj _ _ _ _ _ hx e).1)
  have hlow : ∀ {l j x}, E'.bk l j = some x → W.mine x ∧ x < w'.heap.size := fun {l j x} hl => by
    have hsz := hg.size
    have hWs := h.base.size
    rcases bkc hl with ⟨_, _, h3⟩ | ⟨_, _, h3⟩
    · obtain ⟨a, b⟩ := hblk x h3
      refine ⟨?_, b⟩
      rcases a with a | a
      · exact (h.owlo _ _ _ a).1
      · exact .inl (by omega)
    · have := h.owlo _ _ _ h3
      exact ⟨this.1, by omega⟩
  refine h.next s ?_ (by rw [ha, ← h.defers]; rfl) (by rw [ha, ← h.size]; exact size_put) (fun t => ?_) (fun t m j hm hj => ?_) (fun t hat => ?_) (fun t t' h1 h2 he => h.bxinj t t' (hal.1 h1) (hal.1 h2) (by rw [hβ] at he; exact he)) (fun l j x hl => by rw [hw]; exact hlow hl) (fun l j l' j' x hl hl' => ?_) (fun l j x t hl hat => ?_) hx0 (by rw [hβ])
  · rw [hw]
    exact h.base.grown hg (fun k hk => (h.owlo _ _ _ hk).1)
  · by_cases e : t = d
    · subst e
      right
      rw [ha, getD_put_same (by rw [h.size]; exact hd), hσ, upd_same]
      refine ⟨_, rfl, ?_, ?_⟩
      · rw [hw]; exact hown s
      · rw [hbk]; simp
    · by_cases eN : t = N
      · subst eN
        right
        rw [ha, getD_put_ne e, hσ, upd_other (by simpa using e)]
        exact (h.slot t).step s (fun ag cs' j e' rows' he hcc => (h.ghost he hcc).elim)
      · left
        refine ⟨by rw [hσ, upd_other (by simpa using e)], by rw [ha, getD_put_ne e], fun j => ⟨by rw [hbk]; simp [e, eN], fun x hx => hkeep _ _ x (by simpa using eN) hx⟩⟩
  · left
    have hm' : (E.σ (.gen t)).2 = .num m := by rw [← hm, hσ, upd_other (by simp)]
    have hat : E.alive t := ⟨m, hm'⟩
    have hh : E'.w.heap[E.β t]? = E.w.heap[E.β t]? := by rw [hw]; exact heap _ (h.bxlo t hat).2 (fun hx => h.owbx _ _ _ t hx hat rfl)
    refine ⟨hm', by rw [hσ, upd_other (by simp)], by rw [hβ]; exact World.cell?_of_block (w := E.w) hh, by rw [hβ]; exact World.frozen?_of_block (w := E.w) hh, by rw [hbk]; simp, fun x hx => hkeep _ _ x (by simp) hx⟩
  · have := h.bxlo t (hal.1 hat)
    have hsz := hg.size
    rw [hβ, hw]; exact ⟨this.1, by omega⟩
  · rcases bkc hl with ⟨a1, a2, a3⟩ | ⟨a1, a2, a3⟩
    · rcases bkc hl' with ⟨b1, b2, b3⟩ | ⟨b1, b2, b3⟩
      · exact ⟨a1.trans b1.symm, a2.trans b2.symm⟩
      · rcases (hblk x a3).1 with h4 | h4
        · exact absurd (h.owinj _ _ _ _ _ h4 b3).1.symm b2
        · have := (h.owlo _ _ _ b3).2; omega
    · rcases bkc hl' with ⟨b1, b2, b3⟩ | ⟨b1, b2, b3⟩
      · rcases (hblk x b3).1 with h4 | h4
        · exact absurd (h.owinj _ _ _ _ _ h4 a3).1.symm a2
        · have := (h.owlo _ _ _ a3).2; omega
      · exact h.owinj _ _ _ _ _ a3 b3
  · have hat' := hal.1 hat
    rw [hβ]
    rcases bkc hl with ⟨a1, a2, a3⟩ | ⟨a1, a2, a3⟩
    · rcases (hblk x a3).1 with h4 | h4
      · exact h.owbx _ _ _ t h4 hat'
      · have := (h.bxlo t hat').2; omega
    · exact h.owbx _ _ _ t a3 hat'
end Go.Proofs.YtijnlnmoellbaaaGreat.Ab
