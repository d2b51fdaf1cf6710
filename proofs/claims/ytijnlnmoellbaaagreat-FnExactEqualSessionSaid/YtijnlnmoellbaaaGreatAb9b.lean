/- A store into an element of an owned slice. No program in sight. -/
import Derived.Test.YtijnlnmoellbaaaGreatAb11
namespace Go.Proofs.YtijnlnmoellbaaaGreat.Ab
open Go.RowKit
variable {P : Program} {T : Tab} {W : Base} {N : Nat}

theorem setCells_heap (g : Nat) (e : TypeId) (fr : Nat × Nat) : ∀ (us : List Value) (o : Nat) (w : World) (cur : Array Value), w.heap[g]? = some (.cells cur e fr) → o + us.length ≤ cur.size →
    ∃ cur' : Array Value, (w.setCells g o us).heap[g]? = some (.cells cur' e fr) ∧ cur'.toList = overlay cur.toList o us
  | [], o, w, cur, h, hl => ⟨cur, h, by simp [overlay]⟩
  | u :: r, o, w, cur, h, hl => by
    have h1 : (w.setCell ⟨g, o, none⟩ u).heap[g]? = some (.cells (cur.setIfInBounds o u) e fr) := by
      simp [World.setCell, Array.getElem?_modify, h]
    obtain ⟨cur', a1, a2⟩ := setCells_heap g e fr r (o + 1) _ _ h1 (by simp at hl ⊢; omega)
    refine ⟨cur', a1, ?_⟩
    rw [a2]
    have hlt : o < cur.toList.length := by simp at hl ⊢; omega
    unfold overlay
    simp only [Array.toList_setIfInBounds, List.length_cons]
    rw [List.drop_set_of_lt (by omega)]
    have ht : (cur.toList.set o u).take (o + 1) = cur.toList.take o ++ [u] := by
      rw [List.take_add_one, List.take_set_of_le (Nat.le_refl _), List.getElem?_set_self hlt]
      rfl
    rw [ht, show o + 1 + r.length = o + (r.length + 1) by omega]
    simp [List.append_assoc]

/-- Row k, from offset p on, takes data. -/
def pokeRow (rows : List (List D)) (k p : Nat) (ds : List D) : List (List D) := rows.set k (overlay (rows.getD k []) p ds)
def Env.poke (E : Env) (q : Loc) (ag : Bool) (cs : List CV) (j : Nat) (e : TypeId) (rows : List (List D)) (w' : World) : Env :=
  { E with σ := updm E.σ q (.val ag (cs.set j (.sl true e rows))), w := w' }
theorem Rel.poke {E : Env} (h : Rel T W N E) {q : Loc} {ag : Bool} {cs : List CV} {j g k p : Nat} {e : TypeId} {te : Ty} {rows : List (List D)} {us : List Value} {ds : List D} {v : Value} (hq : (E.σ q).2 = .val ag cs) (hj : cs[j]? = some (.sl true e rows))
    (hat : E.at_ q j = some v) (hr : RelCV T W E q j v (.sl true e rows)) (hte : T e = some te) (hg : v.ownBlock = some g) (hk : k < rows.length) (hp : p + us.length ≤ te.cts.length) (hus : ds.length = us.length)
    (hd : ∀ (i : Nat) ct u d, te.cts[p + i]? = some ct → us[i]? = some u → ds[i]? = some d → RdR T E.w E.X ct u d) :
    Rel T W N (E.poke q ag cs j e (pokeRow rows k p ds) (E.w.setCells g (k * te.cts.length + p) us)) := by
  obtain ⟨f1, f2, f3, f4, f5⟩ := setCells_frame g us (k * te.cts.length + p) E.w
  generalize hw' : E.w.setCells g (k * te.cts.length + p) us = w' at *
  have hbk : E.bk q j = some g := hr.2.symm.trans hg
  have hrb := hr.2
  obtain ⟨⟨ty, xs, o1, o2, o3, o4⟩, _⟩ := hr
  rw [hte] at o1
  obtain rfl := Option.some.inj o1
  have hne : ∀ t, E.alive t → g ≠ E.β t := fun t ha => h.owbx q j g t hbk ha
  have hgl := h.owlo q j g hbk
  have σq : ((E.poke q ag cs j e (pokeRow rows k p ds) w').σ q) = ((E.σ q).1, .val ag (cs.set j (.sl true e (pokeRow rows k p ds)))) := by show updw 0 _ _ _ _ = _; simp [updw]
  have σo : ∀ {l}, l ≠ q → (E.poke q ag cs j e (pokeRow rows k p ds) w').σ l = E.σ l := fun {l} hl => by show updw 0 _ _ _ _ = _; simp [updw, hl]
  have gen_eq : ∀ t m, ((E.poke q ag cs j e (pokeRow rows k p ds) w').σ (.gen t)).2 = .num m ↔ (E.σ (.gen t)).2 = .num m := fun t m => by
    by_cases e' : Loc.gen t = q
    · rw [e', σq, hq]; simp
    · rw [σo e']
  have hal : ∀ t, (E.poke q ag cs j e (pokeRow rows k p ds) w').alive t ↔ E.alive t := fun t => ⟨fun ⟨m, hm⟩ => ⟨m, (gen_eq t m).1 hm⟩, fun ⟨m, hm⟩ => ⟨m, (gen_eq t m).2 hm⟩⟩
  have hX : ∀ b, (E.poke q ag cs j e (pokeRow rows k p ds) w').X b → E.X b := fun b hb => by
    rcases hb with hb | ⟨t, ht, rfl⟩ | ⟨l, i, hl⟩
    · exact .inl hb
    · exact .inr (.inl ⟨t, (hal t).1 ht, rfl⟩)
    · exact .inr (.inr ⟨l, i, hl⟩)
  have s : Step E (E.poke q ag cs j e (pokeRow rows k p ds) w') := by
    refine ⟨fun l => ?_, fun t _ => rfl, ⟨by show E.w.heap.size ≤ w'.heap.size; rw [f4]; exact Nat.le_refl _, fun b _ hn => f5 b (fun hb => hn (.inr (.inr ⟨q, j, by rw [hb]; exact hbk⟩)))⟩, fun b _ hb => hX b hb⟩
    have hver : ((E.poke q ag cs j e (pokeRow rows k p ds) w').σ l).1 = (E.σ l).1 := by
      by_cases e' : l = q
      · rw [e', σq]
      · rw [σo e']
    refine ⟨by rw [hver]; exact Nat.le_refl _, fun _ i => ?_⟩
    cases l with
    | slot t => rfl
    | gen t => rfl
    | cell t i' => exact Env.cellAt_congr (fun m => gen_eq t m) (fun m hm => World.cell?_of_block (w := E.w) (f5 _ (fun hb => hne t ⟨m, hm⟩ hb.symm)))
  have hoth : ∀ l i b, ¬ (l = q ∧ i = j) → E.bk l i = some b → w'.heap[b]? = E.w.heap[b]? := fun l i b hn hb => f5 b (fun hbg => by
    subst hbg
    exact hn ⟨(h.owinj _ _ _ _ _ hb hbk).1, (h.owinj _ _ _ _ _ hb hbk).2⟩)
  have hnew : RelCV T W (E.poke q ag cs j e (pokeRow rows k p ds) w') q j v (.sl true e (pokeRow rows k p ds)) := by
    refine ⟨?_, hrb⟩
    rcases o2.2 with ⟨rfl, _⟩ | ⟨g', cap, cur, rfl, e2, e3, e4, e5, e6, e7⟩
    · simp [Value.ownBlock] at hg
    · have : g' = g := by simpa [Value.ownBlock] using hg
      subst this
      have hxl : xs.length = rows.length * te.cts.length := o2.1
      have hkc : (k + 1) * te.cts.length ≤ rows.length * te.cts.length := Nat.mul_le_mul_right _ hk
      have hcap : rows.length * te.cts.length ≤ cap * te.cts.length := Nat.mul_le_mul_right _ e4
      rw [Nat.succ_mul] at hkc
      obtain ⟨cur', c1, c2⟩ := setCells_heap g' e (0, 0) us (k * te.cts.length + p) E.w cur e3 (by rw [e6]; omega)
      rw [hw'] at c1
      have hlr : (pokeRow rows k p ds).length = rows.length := by simp [pokeRow]
      have hrowk : rows[k]? = some (rows.getD k []) := by simp [List.getD_eq_getElem?_getD, List.getElem?_eq_getElem hk]
      have hrl : (rows.getD k []).length = te.cts.length := o3 k _ hrowk
      have hcl : cur'.toList.length = cur.toList.length := by rw [c2]; exact overlay_length _ _ _ (by simp [e6]; omega)
      refine ⟨te, overlay xs (k * te.cts.length + p) us, hte, ⟨by rw [overlay_length _ _ _ (by omega), hlr]; exact hxl, .inr ⟨g', cap, cur', by rw [hlr], e2, c1, by rw [hlr]; exact e4, e5, by simpa [e6] using hcl, ?_⟩⟩, fun k' row hk' => ?_, fun k' j' ct d row hk' hct hd' => ?_⟩
      · rw [hlr, c2]
        apply List.ext_getElem?
        intro i
        rw [List.getElem?_take, overlay_get _ _ _ (by simp [e6]; omega), overlay_get _ _ _ (by omega), ← e7, List.getElem?_take]
        by_cases hi : i < rows.length * te.cts.length
        · simp [hi]
        · simp only [hi, if_false]
          split
          · omega
          · rfl
      · unfold pokeRow at hk'
        rw [List.getElem?_set] at hk'
        split at hk'
        · obtain rfl := Option.some.inj hk'
          rw [overlay_length _ _ _ (by omega)]; exact hrl
        · exact o3 k' row hk'
      · have hj' := (List.getElem?_eq_some_iff.1 hct).1
        unfold pokeRow at hk'
        rw [List.getElem?_set] at hk'
        have mv : ∀ {u}, RdR T E.w E.X ct u d → RdR T (E.poke q ag cs j e (pokeRow rows k p ds) w').w (E.poke q ag cs j e (pokeRow rows k p ds) w').X ct u d := fun hr' => hr'.move s.keep s.less
        split at hk'
        · rename_i hkk
          subst hkk
          obtain rfl := Option.some.inj hk'
          rw [overlay_get _ _ _ (by omega)] at hd' ⊢
          by_cases hin : p ≤ j' ∧ j' < p + ds.length
          · rw [if_pos hin] at hd'
            rw [if_pos ⟨by omega, by omega⟩]
            have hu : j' - p < us.length := by omega
            refine ⟨us[j' - p], by rw [show k * te.cts.length + j' - (k * te.cts.length + p) = j' - p by omega]; exact List.getElem?_eq_getElem hu, mv (hd (j' - p) ct _ d (by rw [show p + (j' - p) = j' by omega]; exact hct) (List.getElem?_eq_getElem hu) hd')⟩
          · rw [if_neg hin] at hd'
            rw [if_neg (by omega)]
            obtain ⟨u, hu, hr'⟩ := o4 k j' ct d _ hrowk hct hd'
            exact ⟨u, hu, mv hr'⟩
        · rename_i hkk
          have hk'l := (List.getElem?_eq_some_iff.1 hk').1
          obtain ⟨u, hu, hr'⟩ := o4 k' j' ct d row hk' hct hd'
          refine ⟨u, ?_, mv hr'⟩
          rw [overlay_get _ _ _ (by omega), if_neg ?_]
          · exact hu
          · intro ⟨a1, a2⟩
            rcases Nat.lt_or_gt_of_ne hkk with h1 | h1
            · have : (k + 1) * te.cts.length ≤ k' * te.cts.length := Nat.mul_le_mul_right _ h1
              rw [Nat.succ_mul] at this
              omega
            · have : (k' + 1) * te.cts.length ≤ k * te.cts.length := Nat.mul_le_mul_right _ h1
              rw [Nat.succ_mul] at this
              omega
  refine h.next s ?_ h.defers h.size (fun t => ?_) (fun t m i hm hi => ?_) (fun t ha => by show _ ∧ _ < w'.heap.size; rw [f4]; exact h.bxlo t ((hal t).1 ha)) (fun t t' ha ha' he => h.bxinj t t' ((hal t).1 ha) ((hal t').1 ha') he) (fun l i b hb => by show _ ∧ _ < w'.heap.size; rw [f4]; exact h.owlo l i b hb) h.owinj (fun l i b t hb ha => h.owbx l i b t hb ((hal t).1 ha))
  · exact h.base.next f1 f2 f3 (by show _ ≤ w'.heap.size; rw [f4]; exact Nat.le_refl _) (fun k' hk' hn => f5 k' (fun e' => hn (e' ▸ (h.owlo q j g hbk).1)))
  · by_cases e' : Loc.slot t = q
    · right
      have h0 := h.slot t
      rw [e'] at h0 ⊢
      rw [σq]
      rw [hq] at h0
      have hatt : ∀ i, E.at_ q i = (E.a.tmps.getD t undef).cells[i]? := fun i => by rw [← e']; rfl
      cases ag with
      | true =>
        obtain ⟨arr, h1, h2, h3⟩ := h0
        refine ⟨arr, h1, by simpa using h2, fun i c' hc' => ?_⟩
        rw [List.getElem?_set] at hc'
        split at hc'
        · rename_i hij
          subst hij
          split at hc'
          · obtain rfl := Option.some.inj hc'
            refine ⟨v, ?_, hnew⟩
            have := hatt j
            rw [hat, h1] at this
            exact this.symm
          · cases hc'
        · rename_i hij
          obtain ⟨u, hu, hru⟩ := h3 i c' hc'
          exact ⟨u, hu, hru.step s (fun e'' rows'' _ => ⟨rfl, fun b hb => hoth q i b (fun hh => hij hh.2.symm) hb⟩)⟩
      | false =>
        obtain ⟨c0, rfl, h2⟩ := h0
        cases j with
        | zero =>
          obtain rfl : c0 = .sl true e rows := Option.some.inj hj
          refine ⟨_, rfl, ?_⟩
          have := hatt 0
          rw [hat, h2.cells1] at this
          obtain rfl : v = E.a.tmps.getD t undef := by simpa using this
          exact hnew
        | succ j => cases hj
    · left
      exact ⟨by rw [σo e'], rfl, fun i => ⟨rfl, fun b hb => hoth _ i b (fun hh => e' hh.1) hb⟩⟩
  · have hm' := (gen_eq t m).1 hm
    have ha : E.alive t := ⟨m, hm'⟩
    have hblk : w'.heap[E.β t]? = E.w.heap[E.β t]? := f5 _ (fun hb => hne t ha hb.symm)
    by_cases e' : Loc.cell t i = q
    · right
      obtain ⟨c0, v0, e1, e2, e3, e4⟩ := h.cell t m i hm' hi
      rw [e'] at e1 ⊢
      rw [hq] at e1
      simp only [SV.val.injEq] at e1
      obtain ⟨rfl, rfl⟩ := e1
      cases j with
      | zero =>
        refine ⟨_, v0, by rw [σq]; rfl, (World.cell?_of_block (w := E.w) hblk).trans e2, (World.frozen?_of_block (w := E.w) hblk).trans e3, ?_⟩
        have : E.at_ q 0 = some v0 := by rw [← e', Env.at_cell hm' hi]; exact e2
        rw [hat] at this
        obtain rfl := Option.some.inj this
        exact hnew
      | succ j => cases hj
    · left
      exact ⟨hm', by rw [σo e'], World.cell?_of_block (w := E.w) hblk, World.frozen?_of_block (w := E.w) hblk, rfl, fun b hb => hoth _ _ b (fun hh => e' hh.1) hb⟩
end Go.Proofs.YtijnlnmoellbaaaGreat.Ab
