/- A row of a slice that owns all that it leads to takes a structure with what that owns. No program in sight. -/
import Derived.Test.YtidjlboppokloaaK5
namespace Go.Proofs.Ytidjlboppokloaa.Ab
open Go.RowKit
set_option linter.unusedVariables false
variable {P : Program} {T : Tab} {W : Base} {N : Nat}
def Env.pokeD (E : Env) (N : Nat) (q : Loc) (ag : Bool) (cs : List CV) (j : Nat) (e : TypeId) (rows : List (List D)) (w' : World) (F' : Nat → Prop) : Env :=
  { E with σ := updm E.σ q (.val ag (cs.set j (.sl true e rows))), w := w', bk := fun l i => if l = q ∧ i = j then F' else if l = .slot N then noB else E.bk l i }
theorem Rel.pokeD {E : Env} (h : Rel T W N E) {q : Loc} {ag : Bool} {cs : List CV} {j g o : Nat} {e : TypeId} {rows rows' : List (List D)} {us : List Value} {v : Value} {F' : Nat → Prop} (hq : (E.σ q).2 = .val ag cs) (hj : cs[j]? = some (.sl true e rows))
    (hat : E.at_ q j = some v) (hbk : E.bk q j g) (hdp : dpT T e = true) (hF : ∀ b, F' b → E.bk q j b ∨ ∃ i, E.bk (.slot N) i b) (hnew : DeepV T (E.w.setCells g o us) F' (.l e) v (.l rows')) :
    Rel T W N (E.pokeD N q ag cs j e rows' (E.w.setCells g o us) F') := by
  obtain ⟨f1, f2, f3, f4, f5⟩ := setCells_frame g us o E.w
  generalize hw' : E.w.setCells g o us = w' at *
  have hqN : q ≠ .slot N := fun e => by subst e; exact h.ghost hq hj
  have hne : ∀ t, E.alive t → g ≠ E.β t := fun t ha => h.owbx q j g t hbk ha
  have hgl := h.owlo q j g hbk
  have σq : ((E.pokeD N q ag cs j e rows' w' F').σ q) = ((E.σ q).1, .val ag (cs.set j (.sl true e rows'))) := by show updw 0 _ _ _ _ = _; simp [updw]
  have σo : ∀ {l}, l ≠ q → (E.pokeD N q ag cs j e rows' w' F').σ l = E.σ l := fun {l} hl => by show updw 0 _ _ _ _ = _; simp [updw, hl]
  have gen_eq : ∀ t m, ((E.pokeD N q ag cs j e rows' w' F').σ (.gen t)).2 = .num m ↔ (E.σ (.gen t)).2 = .num m := fun t m => by
    by_cases e' : Loc.gen t = q
    · rw [e', σq, hq]; simp
    · rw [σo e']
  have hal : ∀ t, (E.pokeD N q ag cs j e rows' w' F').alive t ↔ E.alive t := fun t => ⟨fun ⟨m, hm⟩ => ⟨m, (gen_eq t m).1 hm⟩, fun ⟨m, hm⟩ => ⟨m, (gen_eq t m).2 hm⟩⟩
  have bkq : (E.pokeD N q ag cs j e rows' w' F').bk q j = F' := by simp [Env.pokeD]
  have bko : ∀ {l i}, ¬ (l = q ∧ i = j) → l ≠ .slot N → (E.pokeD N q ag cs j e rows' w' F').bk l i = E.bk l i := fun {l i} h1 h2 => by simp only [Env.pokeD]; rw [if_neg h1, if_neg h2]
  have old : ∀ {l i x}, (E.pokeD N q ag cs j e rows' w' F').bk l i x → ∃ l0 i0, E.bk l0 i0 x ∧ ((l = q ∧ i = j ∧ ((l0 = q ∧ i0 = j) ∨ l0 = .slot N)) ∨ (l0 = l ∧ i0 = i ∧ ¬ (l = q ∧ i = j) ∧ l ≠ .slot N)) := fun {l i x} hl => by
    by_cases h1 : l = q ∧ i = j
    · obtain ⟨rfl, rfl⟩ := h1
      rw [bkq] at hl
      rcases hF x hl with hx | ⟨i0, hx⟩
      · exact ⟨_, _, hx, .inl ⟨rfl, rfl, .inl ⟨rfl, rfl⟩⟩⟩
      · exact ⟨_, _, hx, .inl ⟨rfl, rfl, .inr rfl⟩⟩
    · by_cases h2 : l = .slot N
      · simp only [Env.pokeD] at hl
        rw [if_neg h1, if_pos h2] at hl
        exact hl.elim
      · rw [bko h1 h2] at hl
        exact ⟨l, i, hl, .inr ⟨rfl, rfl, h1, h2⟩⟩
  have hX : ∀ b, (E.pokeD N q ag cs j e rows' w' F').X b → E.X b := fun b hb => by
    rcases hb with hb | ⟨t, ht, rfl⟩ | ⟨l, i, hl⟩
    · exact .inl hb
    · exact .inr (.inl ⟨t, (hal t).1 ht, rfl⟩)
    · obtain ⟨l0, i0, h0, _⟩ := old hl
      exact .inr (.inr ⟨l0, i0, h0⟩)
  have s : Step E (E.pokeD N q ag cs j e rows' w' F') := by
    refine ⟨fun l => ?_, fun t _ => rfl, ⟨by show E.w.heap.size ≤ w'.heap.size; rw [f4]; exact Nat.le_refl _, fun b _ hn => f5 b (fun hb => hn (.inr (.inr ⟨q, j, by rw [hb]; exact hbk⟩)))⟩, fun b _ hb => hX b hb⟩
    have hver : ((E.pokeD N q ag cs j e rows' w' F').σ l).1 = (E.σ l).1 := by
      by_cases e' : l = q
      · rw [e', σq]
      · rw [σo e']
    refine ⟨by rw [hver]; exact Nat.le_refl _, fun _ i => ?_⟩
    cases l with
    | slot t => rfl
    | gen t => rfl
    | cell t i' => exact Env.cellAt_congr (fun m => gen_eq t m) (fun m hm => World.cell?_of_block (w := E.w) (f5 _ (fun hb => hne t ⟨m, hm⟩ hb.symm)))
  have hoth : ∀ l i b, ¬ (l = q ∧ i = j) → E.bk l i b → w'.heap[b]? = E.w.heap[b]? := fun l i b hn hb => f5 b (fun hbg => by
    subst hbg
    exact hn ⟨(h.owinj _ _ _ _ _ hb hbk).1, (h.owinj _ _ _ _ _ hb hbk).2⟩)
  have hnew' : RelCV T W (E.pokeD N q ag cs j e rows' w' F') q j v (.sl true e rows') := by
    show OwnF T w' _ ((E.pokeD N q ag cs j e rows' w' F').bk q j) e v rows'
    rw [bkq]
    exact OwnF.of_deep hdp hnew
  refine h.next s ?_ h.defers h.size (fun t => ?_) (fun t m i hm hi => ?_) (fun t ha => by show _ ∧ _ < w'.heap.size; rw [f4]; exact h.bxlo t ((hal t).1 ha)) (fun t t' ha ha' he => h.bxinj t t' ((hal t).1 ha) ((hal t').1 ha') he)
    (fun l i b hb => by obtain ⟨l0, i0, h0, _⟩ := old hb; show _ ∧ _ < w'.heap.size; rw [f4]; exact h.owlo l0 i0 b h0) (fun l i l' i' b hb hb' => ?_) (fun l i b t hb ha => by obtain ⟨l0, i0, h0, _⟩ := old hb; exact h.owbx l0 i0 b t h0 ((hal t).1 ha))
  · exact h.base.next f1 f2 f3 (by show _ ≤ w'.heap.size; rw [f4]; exact Nat.le_refl _) (fun k' hk' hn => f5 k' (fun e' => hn (e' ▸ (h.owlo q j g hbk).1)))
  · by_cases e' : Loc.slot t = q
    · right
      have h0 := h.slot t
      rw [e'] at h0 ⊢
      rw [σq]
      rw [hq] at h0
      have hatt : ∀ i, E.at_ q i = (E.a.tmps.getD t undef).cells[i]? := fun i => by rw [← e']; rfl
      cases ag with
      | true =>
        obtain ⟨arr, h1, h2, h3⟩ := h0
        refine ⟨arr, h1, by simpa using h2, fun i c' hc' => ?_⟩
        rw [List.getElem?_set] at hc'
        split at hc'
        · rename_i hij
          subst hij
          split at hc'
          · obtain rfl := Option.some.inj hc'
            refine ⟨v, ?_, hnew'⟩
            have := hatt j
            rw [hat, h1] at this
            exact this.symm
          · cases hc'
        · rename_i hij
          obtain ⟨u, hu, hru⟩ := h3 i c' hc'
          exact ⟨u, hu, hru.step s (fun e'' rows'' _ => ⟨bko (fun hh => hij hh.2.symm) hqN, fun b hb => hoth q i b (fun hh => hij hh.2.symm) hb⟩)⟩
      | false =>
        obtain ⟨c0, rfl, h2⟩ := h0
        cases j with
        | zero =>
          obtain rfl : c0 = .sl true e rows := Option.some.inj hj
          refine ⟨_, rfl, ?_⟩
          have := hatt 0
          rw [hat, h2.cells1] at this
          obtain rfl : v = E.a.tmps.getD t undef := by simpa using this
          exact hnew'
        | succ j => cases hj
    · by_cases eN : t = N
      · subst eN
        right
        rw [σo e']
        exact (h.slot t).step s (fun j ho => (h.ghostA ho).elim)
      · left
        exact ⟨by rw [σo e'], rfl, fun i => ⟨bko (fun hh => e' hh.1) (fun hh => eN (by simpa using hh)), fun b hb => hoth _ i b (fun hh => e' hh.1) hb⟩⟩
  · have hm' := (gen_eq t m).1 hm
    have ha : E.alive t := ⟨m, hm'⟩
    have hblk : w'.heap[E.β t]? = E.w.heap[E.β t]? := f5 _ (fun hb => hne t ha hb.symm)
    by_cases e' : Loc.cell t i = q
    · right
      obtain ⟨c0, v0, e1, e2, e3, e4⟩ := h.cell t m i hm' hi
      rw [e'] at e1 ⊢
      rw [hq] at e1
      simp only [SV.val.injEq] at e1
      obtain ⟨rfl, rfl⟩ := e1
      cases j with
      | zero =>
        refine ⟨_, v0, by rw [σq]; rfl, (World.cell?_of_block (w := E.w) hblk).trans e2, (World.frozen?_of_block (w := E.w) hblk).trans e3, ?_⟩
        have : E.at_ q 0 = some v0 := by rw [← e', Env.at_cell hm' hi]; exact e2
        rw [hat] at this
        obtain rfl := Option.some.inj this
        exact hnew'
      | succ j => cases hj
    · left
      exact ⟨hm', by rw [σo e'], World.cell?_of_block (w := E.w) hblk, World.frozen?_of_block (w := E.w) hblk, bko (fun hh => e' hh.1) (by simp), fun b hb => hoth _ _ b (fun hh => e' hh.1) hb⟩
  · obtain ⟨l0, i0, h0, c0⟩ := old hb
    obtain ⟨l1, i1, h1, c1⟩ := old hb'
    obtain ⟨rfl, rfl⟩ := h.owinj _ _ _ _ _ h0 h1
    rcases c0 with ⟨rfl, rfl, _⟩ | ⟨rfl, rfl, a1, a2⟩
    · rcases c1 with ⟨rfl, rfl, _⟩ | ⟨b1, b2, b3, b4⟩
      · exact ⟨rfl, rfl⟩
      · rename_i hc
        rcases hc with ⟨rfl, rfl⟩ | rfl
        · exact absurd ⟨b1.symm, b2.symm⟩ b3
        · exact absurd b1.symm b4
    · rcases c1 with ⟨rfl, rfl, hc⟩ | ⟨b1, b2, _, _⟩
      · rcases hc with ⟨rfl, rfl⟩ | rfl
        · exact absurd ⟨rfl, rfl⟩ a1
        · exact absurd rfl a2
      · exact ⟨b1, b2⟩
end Go.Proofs.Ytidjlboppokloaa.Ab
