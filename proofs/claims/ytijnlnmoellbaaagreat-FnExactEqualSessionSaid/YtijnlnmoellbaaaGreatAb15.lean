/- A call's result is laid into its slot. No program in sight. -/
import Derived.Test.YtijnlnmoellbaaaGreatAb14
namespace Go.Proofs.YtijnlnmoellbaaaGreat.Ab
open Go.RowKit
variable {P : Program} {T : Tab} {W : Base} {N : Nat}

/-- A slot takes a result of a call that left all old memory alone. -/
def Env.called (E : Env) (N d : Nat) (v : Value) (sv : SV) (w' : World) (f : Nat → Option Nat) : Env :=
  { E with σ := upd E.σ (.slot d) sv, a := E.a.put (some d) v, w := w', bk := fun l j => if l = .slot d then f j else if l = .slot N then none else E.bk l j }
theorem Rel.called {E : Env} (h : Rel T W N E) {d : Nat} {v : Value} {sv : SV} {w' : World} {f : Nat → Option Nat} (hd : d < N) (hg : Below E.w.heap.size E.w w')
    (hf : ∀ j b, f j = some b → E.w.heap.size ≤ b ∧ b < w'.heap.size) (hfi : ∀ j j' b, f j = some b → f j' = some b → j = j')
    (hv : Step E (E.called N d v sv w' f) → RelSV T W (E.called N d v sv w' f) (.slot d) v sv) : Rel T W N (E.called N d v sv w' f) := by
  generalize hE : E.called N d v sv w' f = E' at *
  have hσ : E'.σ = upd E.σ (.slot d) sv := by rw [← hE]; rfl
  have hw : E'.w = w' := by rw [← hE]; rfl
  have ha : E'.a = E.a.put (some d) v := by rw [← hE]; rfl
  have hβ : E'.β = E.β := by rw [← hE]; rfl
  have hx0 : E'.x0 = E.x0 := by rw [← hE]; rfl
  have hbk : E'.bk = fun l j => if l = .slot d then f j else if l = .slot N then none else E.bk l j := by rw [← hE]; rfl
  have hal : ∀ {t}, E'.alive t ↔ E.alive t := fun {t} => by
    unfold Env.alive; rw [hσ, upd_other (show Loc.gen t ≠ Loc.slot d by simp)]
  have bkc : ∀ {l j x}, E'.bk l j = some x → (l = .slot d ∧ f j = some x) ∨ (l ≠ .slot d ∧ l ≠ .slot N ∧ E.bk l j = some x) := fun {l j x} hl => by
    rw [hbk] at hl
    simp only at hl
    split at hl
    · rename_i h1; exact .inl ⟨h1, hl⟩
    · rename_i h1
      split at hl
      · cases hl
      · rename_i h2; exact .inr ⟨h1, h2, hl⟩
  have heap : ∀ x, x < E.w.heap.size → w'.heap[x]? = E.w.heap[x]? := fun x hx => hg.block x hx
  have s : Step E E' := by
    refine ⟨fun q => ?_, fun t _ => by rw [hβ], ⟨by rw [hw]; exact hg.size, fun x hx _ => by rw [hw]; exact heap x hx⟩, fun x hx hX => ?_⟩
    · by_cases e : q = .slot d
      · subst e
        rw [hσ, upd_same]
        exact ⟨by simp, fun h => absurd h (by simp)⟩
      · rw [hσ, upd_other e]
        refine ⟨Nat.le_refl _, fun _ i => ?_⟩
        cases q with
        | slot t =>
          have : t ≠ d := fun h => e (by rw [h])
          show (E'.a.tmps.getD t undef).cells[i]? = _
          rw [ha, getD_put_ne this]; rfl
        | cell t j =>
          refine Env.cellAt_congr (fun m => by rw [hσ, upd_other (by simp)]) (fun m hm => ?_)
          rw [hβ, hw]
          exact World.cell?_of_block (w := E.w) (heap _ (h.bxlo t ⟨m, hm⟩).2)
        | gen t => rfl
    · rcases hX with hX | ⟨t, ht, rfl⟩ | ⟨l, j, hl⟩
      · rw [hx0] at hX; exact .inl hX
      · exact .inr (.inl ⟨t, hal.1 ht, by rw [hβ]⟩)
      · rcases bkc hl with ⟨_, h3⟩ | ⟨_, _, h3⟩
        · have := (hf j x h3).1; omega
        · exact .inr (.inr ⟨l, j, h3⟩)
  have hkeep : ∀ l j x, E.bk l j = some x → E'.w.heap[x]? = E.w.heap[x]? := fun l j x hx => by
    rw [hw]; exact heap x (h.owlo _ _ _ hx).2
  have hWs := h.base.size
  have hlow : ∀ {l j x}, E'.bk l j = some x → W.mine x ∧ x < w'.heap.size := fun {l j x} hl => by
    have hsz := hg.size
    rcases bkc hl with ⟨_, h3⟩ | ⟨_, _, h3⟩
    · have := hf j x h3; exact ⟨.inl (by omega), by omega⟩
    · have := h.owlo _ _ _ h3; exact ⟨this.1, by omega⟩
  refine h.next s ?_ (by rw [ha, ← h.defers]; rfl) (by rw [ha, ← h.size]; exact size_put) (fun t => ?_) (fun t m j hm hj => ?_) (fun t hat => ?_) (fun t t' h1 h2 he => h.bxinj t t' (hal.1 h1) (hal.1 h2) (by rw [hβ] at he; exact he)) (fun l j x hl => by rw [hw]; exact hlow hl) (fun l j l' j' x hl hl' => ?_) (fun l j x t hl hat => ?_) hx0 (by rw [hβ])
  · rw [hw]
    exact h.base.below hg
  · by_cases e : t = d
    · subst e
      right
      rw [ha, getD_put_same (by rw [h.size]; exact hd), hσ, upd_same]
      exact hv s
    · by_cases eN : t = N
      · subst eN
        right
        rw [ha, getD_put_ne e, hσ, upd_other (by simpa using e)]
        exact (h.slot t).step s (fun ag cs' j e' rows' he hcc => (h.ghost he hcc).elim)
      · left
        refine ⟨by rw [hσ, upd_other (by simpa using e)], by rw [ha, getD_put_ne e], fun j => ⟨by rw [hbk]; simp [e, eN], fun x hx => hkeep _ _ x hx⟩⟩
  · left
    have hm' : (E.σ (.gen t)).2 = .num m := by rw [← hm, hσ, upd_other (by simp)]
    have hh : E'.w.heap[E.β t]? = E.w.heap[E.β t]? := by rw [hw]; exact heap _ (h.bxlo t ⟨m, hm'⟩).2
    refine ⟨hm', by rw [hσ, upd_other (by simp)], by rw [hβ]; exact World.cell?_of_block (w := E.w) hh, by rw [hβ]; exact World.frozen?_of_block (w := E.w) hh, by rw [hbk]; simp, fun x hx => hkeep _ _ x hx⟩
  · have := h.bxlo t (hal.1 hat)
    have hsz := hg.size
    rw [hβ, hw]; exact ⟨this.1, by omega⟩
  · rcases bkc hl with ⟨a1, a3⟩ | ⟨a1, a2, a3⟩
    · rcases bkc hl' with ⟨b1, b3⟩ | ⟨b1, b2, b3⟩
      · exact ⟨a1.trans b1.symm, hfi _ _ _ a3 b3⟩
      · have := (hf j x a3).1
        have := (h.owlo _ _ _ b3).2; omega
    · rcases bkc hl' with ⟨b1, b3⟩ | ⟨b1, b2, b3⟩
      · have := (hf j' x b3).1
        have := (h.owlo _ _ _ a3).2; omega
      · exact h.owinj _ _ _ _ _ a3 b3
  · have hat' := hal.1 hat
    rw [hβ]
    rcases bkc hl with ⟨a1, a3⟩ | ⟨a1, a2, a3⟩
    · have := (hf j x a3).1
      have := (h.bxlo t hat').2; omega
    · exact h.owbx _ _ _ t a3 hat'

/-- Flat data reads alike wherever it is kept from. -/
theorem RdR.flat {w : World} {X X' : Nat → Prop} {ct : CT} {v : Value} {d : D} (h : RdR T w X ct v d) (hc : ∀ e, ct ≠ .l e) : RdR T w X' ct v d := by
  cases h with
  | int k n h => exact .int k n h
  | bool x => exact .bool x
  | str x h => exact .str x h
  | nil e A c h => exact absurd rfl (hc e)
  | sl e ty b o c rows vs h1 h2 h3 h4 h5 h6 h7 h8 => exact absurd rfl (hc e)
theorem Own.flat {w : World} {X X' : Nat → Prop} {B : Nat} {e : TypeId} {v : Value} {rows : List (List D)} (h : Own T w X B e v rows) (hf : flatT T e = true) : Own T w X' B e v rows := by
  obtain ⟨ty, xs, h1, h2, h3, h4⟩ := h
  refine ⟨ty, xs, h1, h2, h3, fun k j ct d row a b c => ?_⟩
  obtain ⟨u, hu, hr⟩ := h4 k j ct d row a b c
  refine ⟨u, hu, hr.flat fun e' he => ?_⟩
  unfold flatT at hf
  rw [h1] at hf
  have := List.all_eq_true.1 hf ct (List.mem_of_getElem? b)
  rw [he] at this
  cases this
theorem Own.base {w : World} {X : Nat → Prop} {B B' : Nat} {e : TypeId} {v : Value} {rows : List (List D)} (h : Own T w X B e v rows) (hb : B' ≤ B) : Own T w X B' e v rows := by
  obtain ⟨ty, xs, h1, h2, h3, h4⟩ := h
  refine ⟨ty, xs, h1, ⟨h2.1, ?_⟩, h3, h4⟩
  rcases h2.2 with h | ⟨g, cap, cur, e1, e2, rest⟩
  · exact .inl h
  · exact .inr ⟨g, cap, cur, e1, Nat.le_trans hb e2, rest⟩
/-- A result's cell as a cell of the slot that takes it. -/
theorem ResC.rel {E' : Env} {X : Nat → Prop} {B d j : Nat} {bk : Nat → Option Nat} {u : Value} {c : CV} (h : ResC T E'.w X B bk j u c) (hB : 0 ≤ B) (hbk : E'.bk (.slot d) j = bk j)
    (hx : (∀ b, b < E'.w.heap.size → E'.X b → X b) ∨ c.noRef T = true) : RelCV T W E' (.slot d) j u c := by
  cases c with
  | sl own e rows =>
    cases own with
    | true =>
      refine ⟨?_, h.2.trans hbk.symm⟩
      rcases hx with hx | hx
      · exact ((h.1 : Own T E'.w X B e u rows).base hB).move ⟨Nat.le_refl _, fun _ _ _ => rfl⟩ hx (fun _ _ => rfl)
      · exact ((h.1 : Own T E'.w X B e u rows).base hB).flat hx
    | false =>
      rcases hx with hx | hx
      · exact RdR.move (h : RdR T E'.w X _ _ _) (Keeps.refl _ _) hx
      · cases hx
  | i k n => exact h
  | b x => exact h
  | s x => exact h
  | al q i n => exact h.elim
  | dead => exact h.elim
theorem ArgC.rel {E' : Env} {X : Nat → Prop} {l : Loc} {j : Nat} {u : Value} {c : CV} (h : ArgC T E'.w X u c) (hx : (∀ b, b < E'.w.heap.size → E'.X b → X b) ∨ c.noRef T = true) : RelCV T W E' l j u c ∧ c.plain = true := by
  cases c with
  | sl own e rows =>
    cases own with
    | true => exact h.elim
    | false =>
      rcases hx with hx | hx
      · exact ⟨RdR.move (h : RdR T E'.w X _ _ _) (Keeps.refl _ _) hx, rfl⟩
      · cases hx
  | i k n => exact ⟨h, rfl⟩
  | b x => exact ⟨h, rfl⟩
  | s x => exact ⟨h, rfl⟩
  | al q i n => exact h.elim
  | dead => exact h.elim
theorem ResR.rel {E' : Env} {X : Nat → Prop} {B d : Nat} {bk : Nat → Option Nat} {v : Value} {sv : SV} (h : ResR T E'.w X B bk v sv) (hB : 0 ≤ B) (hbk : ∀ j, E'.bk (.slot d) j = bk j)
    (hx : (∀ b, b < E'.w.heap.size → E'.X b → X b) ∨ sv.noRef T = true) : RelSV T W E' (.slot d) v sv := by
  cases sv with
  | val ag cs =>
    have hc : ∀ c ∈ cs, (∀ b, b < E'.w.heap.size → E'.X b → X b) ∨ c.noRef T = true := fun c hc => hx.imp id fun hx => List.all_eq_true.1 hx c hc
    cases ag with
    | true =>
      obtain ⟨us, rfl, h2, h3⟩ := h
      refine ⟨us.toArray, rfl, by simp [h2], fun j c hcj => ?_⟩
      have hj : j < us.length := by rw [← h2]; exact (List.getElem?_eq_some_iff.1 hcj).1
      exact ⟨us[j], by simp [hj], (h3 j c us[j] hcj (List.getElem?_eq_getElem hj)).rel hB (hbk j) (hc c (List.mem_of_getElem? hcj))⟩
    | false =>
      obtain ⟨c, rfl, h2⟩ := h
      exact ⟨c, rfl, h2.rel hB (hbk 0) (hc c (by simp))⟩
  | tup vs =>
    obtain ⟨arr, rfl, h2, h3⟩ := h
    refine ⟨arr.toArray, rfl, by simp [h2], fun j p hp => ?_⟩
    have hj : j < arr.length := by rw [← h2]; exact (List.getElem?_eq_some_iff.1 hp).1
    have hpx : ∀ c ∈ p.2, (∀ b, b < E'.w.heap.size → E'.X b → X b) ∨ c.noRef T = true := fun c hc => hx.imp id fun hx => List.all_eq_true.1 (List.all_eq_true.1 hx p (List.mem_of_getElem? hp)) c hc
    refine ⟨arr[j], by simp [hj], fun hp1 => ?_, fun hp1 => ?_⟩
    · have := h3 j p arr[j] hp (List.getElem?_eq_getElem hj)
      rw [hp1] at this
      obtain ⟨us, e1, e2, e3⟩ := this
      refine ⟨us.toArray, e1, by simp [e2], fun i c hc => ?_⟩
      have hi : i < us.length := by rw [← e2]; exact (List.getElem?_eq_some_iff.1 hc).1
      obtain ⟨q1, q2⟩ := (e3 i c us[i] hc (List.getElem?_eq_getElem hi)).rel (W := W) (E' := E') (l := .slot d) (j := 0) (hpx c (List.mem_of_getElem? hc))
      exact ⟨us[i], by simp [hi], q2, q1⟩
    · have := h3 j p arr[j] hp (List.getElem?_eq_getElem hj)
      rw [hp1] at this
      obtain ⟨c, e1, e2⟩ := this
      obtain ⟨q1, q2⟩ := e2.rel (W := W) (E' := E') (l := .slot d) (j := 0) (hpx c (by rw [e1]; simp))
      exact ⟨c, e1, q2, q1⟩
  | _ => exact h.elim
theorem call_end {E : Env} {o : Oper} {f : FuncId} {s : FSpec} {args : List SV} {X : Nat → Prop} {vals : List Value} {Q : St → Prop} {K : Act → World → Prop} {Qx : Exit → Act → World → Prop} (h : Rel T W N E) (hf : FOk P T f s) (hbx : s.bx = false)
    (hrun : (execOp E.a.eval o).run P E.w = .ok (.enter f vals.toArray) E.w) (hargs : ArgsR T E.w X vals args) (hX : ∀ b, X b → E.X b) (hpre : s.pre args) (hx : (∀ b, E.X b → X b) ∨ (s.res args).noRef T = true)
    (hw : (resSet N o (s.res args)).wp Q E.σ) (hK : ∀ E', Rel T W N E' → Q E'.σ → K E'.a E'.w) : o.wp P E.a E.w K Qx := by
  unfold Oper.wp
  rw [hrun, Oper.upon_enter]
  refine (hf.ok hbx E.w X args vals (fun b hb => h.X_lt (hX b hb)) hargs hpre).mono fun e w' ⟨v, bk, he, hb, hr, hbk, hinj⟩ => ?_
  subst he
  unfold resSet at hw
  simp only [Pg.setF_eq] at hw
  split at hw
  · rename_i d hd
    rw [hd]
    refine hK (E.called N d v (s.res args) w' bk) (h.called (Pg.lt_wp hw).1 hb hbk hinj fun st => ?_) (Pg.lt_wp hw).2
    refine ResR.rel (E' := E.called N d v (s.res args) w' bk) hr (Nat.le_refl 0) (fun j => by simp [Env.called]) (hx.imp (fun hx b hb' hXb => ?_) id)
    rcases hXb with hXb | ⟨t, ht, rfl⟩ | ⟨l, j, hl⟩
    · exact .inl (hx _ (.inl hXb))
    · have hat : E.alive t := by
        obtain ⟨m, hm⟩ := ht
        refine ⟨m, ?_⟩
        rw [← hm]
        show _ = (upd _ _ _ _).2
        rw [upd_other (by simp)]
      exact .inl (hx _ (.inr (.inl ⟨t, hat, rfl⟩)))
    · simp only [Env.called] at hl
      split at hl
      · exact .inr ⟨j, hl⟩
      · split at hl
        · cases hl
        · exact .inl (hx _ (.inr (.inr ⟨l, j, hl⟩)))
  · exact hw.elim
theorem call_ok {o : Oper} {f : FuncId} {s : FSpec} {xs : Array Operand} {ts : Array TypeId} (hf : FOk P T f s) (hbx : s.bx = false) (ho : o.op = .call { callee := .value (.func f), args := xs, argTypes := ts }) : OpOk P T W N o (stepCall T N o s xs.toList) := by
  intro E Q K Qx h hw hK
  have hrun : ∀ {E' : Env}, E'.a = E.a → (execOp E'.a.eval o).run P E'.w = .ok (.enter f (xs.toList.map E.a.eval).toArray) E'.w := by
    intro E' ha
    have hmap : xs.map E.a.eval = (xs.toList.map E.a.eval).toArray := by rw [← Array.toList_map]
    simp only [execOp, ho, resolve, Deferred.ofValue, Act.eval, ha, Sem.run_bind, Sem.run_pure, Result.andThen_ok, invoke]
    have := hf.call (xs.map E.a.eval) E'.w
    rw [hmap] at this
    simpa [hmap] using this
  obtain ⟨args, lent, a1, w1⟩ := argsLend_sound h hw
  split at w1
  · rename_i hn
    exact call_end h hf hbx (hrun rfl) a1 (fun b hb => hb.1) w1.1 (.inr hn) w1.2 hK
  · obtain ⟨E', args', r1, s1, b1, w2⟩ := argsPub_sound h w1
    exact s1.run (call_end r1 hf hbx (hrun s1.a) b1 (fun b hb => hb) w2.1 (.inl fun b hb => hb) w2.2 hK)
end Go.Proofs.YtijnlnmoellbaaaGreat.Ab
