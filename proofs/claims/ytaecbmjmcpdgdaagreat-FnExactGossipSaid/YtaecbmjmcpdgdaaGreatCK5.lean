/- A call's result is laid into its slot. No program in sight. Calls that a variable is lent to. No program in sight. More operations: package-level variables, texts and their bytes, cuts, bits. No program in sight. More operations: pointers held against nil, the greater of two, cuts, bits. No program in sight. -/
import Derived.Test.YtaecbmjmcpdgdaaGreatCK4
import Derived.Laws.IdiomStrings
import Derived.Laws.Slices
set_option linter.unusedVariables false
set_option linter.unusedSimpArgs false
namespace Go.Proofs.YtaecbmjmcpdgdaaGreat.Ab
noncomputable section
open Go.RowKit
variable {P : Program} {T : Tab} {W : Base} {N : Nat}
def Env.called (E : Env) (N d : Nat) (v : Value) (sv : SV) (w' : World) (f : Nat → Nat → Prop) : Env :=
  { E with σ := upd E.σ (.slot d) sv, a := E.a.put (some d) v, w := w', bk := fun l j => if l = .slot d then f j else if l = .slot N then noB else E.bk l j }
theorem Rel.called {E : Env} (h : Rel T W N E) {d : Nat} {v : Value} {sv : SV} {w' : World} {f : Nat → Nat → Prop} (hd : d < N) (hg : Below E.w.heap.size E.w w')
    (hf : ∀ j b, f j b → E.w.heap.size ≤ b ∧ b < w'.heap.size) (hfi : ∀ j j' b, f j b → f j' b → j = j')
    (hv : Step E (E.called N d v sv w' f) → RelSV T W (E.called N d v sv w' f) (.slot d) v sv) : Rel T W N (E.called N d v sv w' f) := by
  generalize hE : E.called N d v sv w' f = E' at *
  have hσ : E'.σ = upd E.σ (.slot d) sv := by rw [← hE]; rfl
  have hw : E'.w = w' := by rw [← hE]; rfl
  have ha : E'.a = E.a.put (some d) v := by rw [← hE]; rfl
  have hβ : E'.β = E.β := by rw [← hE]; rfl
  have hx0 : E'.x0 = E.x0 := by rw [← hE]; rfl
  have hbk : E'.bk = fun l j => if l = .slot d then f j else if l = .slot N then noB else E.bk l j := by rw [← hE]; rfl
  have hal : ∀ {t}, E'.alive t ↔ E.alive t := fun {t} => by
    unfold Env.alive; rw [hσ, upd_other (show Loc.gen t ≠ Loc.slot d by simp)]
  have bkc : ∀ {l j x}, E'.bk l j x → (l = .slot d ∧ f j x) ∨ (l ≠ .slot d ∧ l ≠ .slot N ∧ E.bk l j x) := fun {l j x} hl => by
    rw [hbk] at hl
    have hl : (if l = .slot d then f j else if l = .slot N then noB else E.bk l j) x := hl
    split at hl
    · rename_i h1; exact .inl ⟨h1, hl⟩
    · rename_i h1
      split at hl
      · cases hl
      · rename_i h2; exact .inr ⟨h1, h2, hl⟩
  have heap : ∀ x, x < E.w.heap.size → w'.heap[x]? = E.w.heap[x]? := fun x hx => hg.block x hx
  have s : Step E E' := by
    refine ⟨fun q => ?_, fun t _ => by rw [hβ], ⟨by rw [hw]; exact hg.size, fun x hx _ => by rw [hw]; exact heap x hx⟩, fun x hx hX => ?_⟩
    · by_cases e : q = .slot d
      · subst e
        rw [hσ, upd_same]
        exact ⟨by simp, fun h => absurd h (by simp)⟩
      · rw [hσ, upd_other e]
        refine ⟨Nat.le_refl _, fun _ i => ?_⟩
        cases q with
        | slot t =>
          have : t ≠ d := fun h => e (by rw [h])
          show (E'.a.tmps.getD t undef).cells[i]? = _
          rw [ha, getD_put_ne this]; rfl
        | cell t j =>
          refine Env.cellAt_congr (fun m => by rw [hσ, upd_other (by simp)]) (fun m hm => ?_)
          rw [hβ, hw]
          exact World.cell?_of_block (w := E.w) (heap _ (h.bxlo t ⟨m, hm⟩).2)
        | gen t => rfl
    · rcases hX with hX | ⟨t, ht, rfl⟩ | ⟨l, j, hl⟩
      · rw [hx0] at hX; exact .inl hX
      · exact .inr (.inl ⟨t, hal.1 ht, by rw [hβ]⟩)
      · rcases bkc hl with ⟨_, h3⟩ | ⟨_, _, h3⟩
        · have := (hf j x h3).1; omega
        · exact .inr (.inr ⟨l, j, h3⟩)
  have hkeep : ∀ l j x, E.bk l j x → E'.w.heap[x]? = E.w.heap[x]? := fun l j x hx => by
    rw [hw]; exact heap x (h.owlo _ _ _ hx).2
  have hWs := h.base.size
  have hlow : ∀ {l j x}, E'.bk l j x → W.mine x ∧ x < w'.heap.size := fun {l j x} hl => by
    have hsz := hg.size
    rcases bkc hl with ⟨_, h3⟩ | ⟨_, _, h3⟩
    · have := hf j x h3; exact ⟨.inl (by omega), by omega⟩
    · have := h.owlo _ _ _ h3; exact ⟨this.1, by omega⟩
  refine h.next s ?_ (by rw [ha, ← h.defers]; rfl) (by rw [ha, ← h.size]; exact size_put) (fun t => ?_) (fun t m j hm hj => ?_) (fun t hat => ?_) (fun t t' h1 h2 he => h.bxinj t t' (hal.1 h1) (hal.1 h2) (by rw [hβ] at he; exact he)) (fun l j x hl => by rw [hw]; exact hlow hl) (fun l j l' j' x hl hl' => ?_) (fun l j x t hl hat => ?_) hx0 (by rw [hβ])
  · rw [hw]
    exact h.base.below hg
  · by_cases e : t = d
    · subst e
      right
      rw [ha, getD_put_same (by rw [h.size]; exact hd), hσ, upd_same]
      exact hv s
    · by_cases eN : t = N
      · subst eN
        right
        rw [ha, getD_put_ne e, hσ, upd_other (by simpa using e)]
        exact (h.slot t).step s (fun j ho => (h.ghostA ho).elim)
      · left
        refine ⟨by rw [hσ, upd_other (by simpa using e)], by rw [ha, getD_put_ne e], fun j => ⟨by rw [hbk]; simp [e, eN], fun x hx => hkeep _ _ x hx⟩⟩
  · left
    have hm' : (E.σ (.gen t)).2 = .num m := by rw [← hm, hσ, upd_other (by simp)]
    have hh : E'.w.heap[E.β t]? = E.w.heap[E.β t]? := by rw [hw]; exact heap _ (h.bxlo t ⟨m, hm'⟩).2
    refine ⟨hm', by rw [hσ, upd_other (by simp)], by rw [hβ]; exact World.cell?_of_block (w := E.w) hh, by rw [hβ]; exact World.frozen?_of_block (w := E.w) hh, by rw [hbk]; simp, fun x hx => hkeep _ _ x hx⟩
  · have := h.bxlo t (hal.1 hat)
    have hsz := hg.size
    rw [hβ, hw]; exact ⟨this.1, by omega⟩
  · rcases bkc hl with ⟨a1, a3⟩ | ⟨a1, a2, a3⟩
    · rcases bkc hl' with ⟨b1, b3⟩ | ⟨b1, b2, b3⟩
      · exact ⟨a1.trans b1.symm, hfi _ _ _ a3 b3⟩
      · have := (hf j x a3).1
        have := (h.owlo _ _ _ b3).2; omega
    · rcases bkc hl' with ⟨b1, b3⟩ | ⟨b1, b2, b3⟩
      · have := (hf j' x b3).1
        have := (h.owlo _ _ _ a3).2; omega
      · exact h.owinj _ _ _ _ _ a3 b3
  · have hat' := hal.1 hat
    rw [hβ]
    rcases bkc hl with ⟨a1, a3⟩ | ⟨a1, a2, a3⟩
    · have := (hf j x a3).1
      have := (h.bxlo t hat').2; omega
    · exact h.owbx _ _ _ t a3 hat'
theorem RdR.flat {w : World} {X X' : Nat → Prop} {ct : CT} {v : Value} {d : D} (h : RdR T w X ct v d) (hc : ∀ e, ct ≠ .l e) : RdR T w X' ct v d := by
  cases h with
  | int k n h => exact .int k n h
  | bool x => exact .bool x
  | str x h => exact .str x h
  | nil e A c h => exact absurd rfl (hc e)
  | sl e ty b o c rows vs h1 h2 h3 h4 h5 h6 h7 h8 => exact absurd rfl (hc e)
theorem RdR.empty {w : World} {X X' : Nat → Prop} {e : TypeId} {v : Value} (h : RdR T w X (.l e) v (.l [])) : RdR T w X' (.l e) v (.l []) := by
  generalize hd : D.l [] = d at h
  generalize hc : CT.l e = ct at h
  cases h with
  | nil e' A c h => cases hc; exact .nil _ A c h
  | sl e' ty b o c rows vs h1 h2 h3 h4 h5 h6 h7 h8 =>
    cases hc
    obtain rfl : [] = rows := by simpa using hd
    exact .nil _ _ c h3
  | _ => cases hc
theorem Own.flat {w : World} {X X' : Nat → Prop} {B : Nat} {e : TypeId} {v : Value} {rows : List (List D)} (h : Own T w X B e v rows) (hf : flatT T e = true) : Own T w X' B e v rows := by
  obtain ⟨ty, xs, h1, h2, h3, h4⟩ := h
  refine ⟨ty, xs, h1, h2, h3, fun k j ct d row a b c => ?_⟩
  obtain ⟨u, hu, hr⟩ := h4 k j ct d row a b c
  refine ⟨u, hu, hr.flat fun e' he => ?_⟩
  unfold flatT at hf
  rw [h1] at hf
  have := List.all_eq_true.1 hf ct (List.mem_of_getElem? b)
  rw [he] at this
  cases this
theorem Own.base {w : World} {X : Nat → Prop} {B B' : Nat} {e : TypeId} {v : Value} {rows : List (List D)} (h : Own T w X B e v rows) (hb : B' ≤ B) : Own T w X B' e v rows := by
  obtain ⟨ty, xs, h1, h2, h3, h4⟩ := h
  refine ⟨ty, xs, h1, ⟨h2.1, ?_⟩, h3, h4⟩
  rcases h2.2 with h | ⟨g, cap, cur, e1, e2, rest⟩
  · exact .inl h
  · exact .inr ⟨g, cap, cur, e1, Nat.le_trans hb e2, rest⟩
theorem ResC.rel {E' : Env} {X : Nat → Prop} {l : Loc} {j i : Nat} {bk : Nat → Nat → Prop} {u : Value} {c : CV} (h : ResC T E'.w X bk j u c) (hbk : E'.bk l i = bk j)
    (hx : (∀ b, b < E'.w.heap.size → E'.X b → X b) ∨ c.noRefP T) : RelCV T W E' l i u c := by
  cases c with
  | sl own e rows =>
    cases own with
    | true =>
      have h : OwnF T E'.w X (bk j) e u rows := h
      show OwnF T E'.w E'.X (E'.bk l i) e u rows
      rw [hbk]
      rcases hx with hx | hx
      · exact h.move ⟨Nat.le_refl _, fun _ _ _ => rfl⟩ hx rfl (fun _ _ => rfl)
      · rcases hx with hx | hx
        · exact OwnF.of_deep' hx (h.toDeep hx)
        · have hd : dpT T e = false := by unfold dpT; rw [hx]; simp
          obtain ⟨h1, h2⟩ := h.own hd
          exact .of_own hd (h1.flat hx) h2
    | false =>
      rcases hx with hx | hx
      · exact RdR.move (h : RdR T E'.w X _ _ _) (Keeps.refl _ _) hx
      · obtain rfl : rows = [] := hx
        exact RdR.empty (h : RdR T E'.w X _ _ _)
  | i k n => exact h
  | b x => exact h
  | s x => exact h
  | al q i n => exact h.elim
  | dead => exact h.elim
theorem ArgC.rel {E' : Env} {X : Nat → Prop} {l : Loc} {j : Nat} {u : Value} {c : CV} (h : ArgC T E'.w X u c) (hx : (∀ b, b < E'.w.heap.size → E'.X b → X b) ∨ c.noRefP T) : RelCV T W E' l j u c ∧ c.plain = true := by
  cases c with
  | sl own e rows =>
    cases own with
    | true => exact h.elim
    | false =>
      rcases hx with hx | hx
      · exact ⟨RdR.move (h : RdR T E'.w X _ _ _) (Keeps.refl _ _) hx, rfl⟩
      · obtain rfl : rows = [] := hx
        exact ⟨RdR.empty (h : RdR T E'.w X _ _ _), rfl⟩
  | i k n => exact ⟨h, rfl⟩
  | b x => exact ⟨h, rfl⟩
  | s x => exact ⟨h, rfl⟩
  | al q i n => exact h.elim
  | dead => exact h.elim
theorem ResR.rel {E' : Env} {X : Nat → Prop} {d : Nat} {bk : Nat → Nat → Prop} {v : Value} {sv : SV} (h : ResR T E'.w X bk v sv) (hbk : ∀ j, E'.bk (.slot d) j = bk j)
    (hx : (∀ b, b < E'.w.heap.size → E'.X b → X b) ∨ sv.noRefP T) : RelSV T W E' (.slot d) v sv := by
  cases sv with
  | val ag cs =>
    have hc : ∀ c ∈ cs, (∀ b, b < E'.w.heap.size → E'.X b → X b) ∨ c.noRefP T := fun c hc => hx.imp id fun hx => hx c hc
    cases ag with
    | true =>
      obtain ⟨us, rfl, h2, h3⟩ := h
      refine ⟨us.toArray, rfl, by simp [h2], fun j c hcj => ?_⟩
      have hj : j < us.length := by rw [← h2]; exact (List.getElem?_eq_some_iff.1 hcj).1
      exact ⟨us[j], by simp [hj], (h3 j c us[j] hcj (List.getElem?_eq_getElem hj)).rel (hbk j) (hc c (List.mem_of_getElem? hcj))⟩
    | false =>
      obtain ⟨c, rfl, h2⟩ := h
      exact ⟨c, rfl, h2.rel (hbk 0) (hc c (by simp))⟩
  | tup vs =>
    obtain ⟨arr, rfl, h2, h3⟩ := h
    refine ⟨arr.toArray, rfl, by simp [h2], fun j p hp => ?_⟩
    have hj : j < arr.length := by rw [← h2]; exact (List.getElem?_eq_some_iff.1 hp).1
    have hpx : ∀ c ∈ p.2, (∀ b, b < E'.w.heap.size → E'.X b → X b) ∨ c.noRefP T := fun c hc => hx.imp id fun hx => hx p (List.mem_of_getElem? hp) c hc
    refine ⟨arr[j], by simp [hj], fun hp1 => ?_, fun hp1 => ?_⟩
    · obtain ⟨us, e1, e2, e3⟩ := (h3 j p arr[j] hp (List.getElem?_eq_getElem hj)).1 hp1
      refine ⟨us.toArray, e1, by simp [e2], fun i c hc => ?_⟩
      have hi : i < us.length := by rw [← e2]; exact (List.getElem?_eq_some_iff.1 hc).1
      obtain ⟨q1, q2⟩ := e3 i c us[i] hc (List.getElem?_eq_getElem hi)
      exact ⟨us[i], by simp [hi], q1, q2.rel (hbk _) (hpx c (List.mem_of_getElem? hc))⟩
    · obtain ⟨c, e1, q1, q2⟩ := (h3 j p arr[j] hp (List.getElem?_eq_getElem hj)).2 hp1
      exact ⟨c, e1, q1, q2.rel (hbk _) (hpx c (by rw [e1]; simp))⟩
  | _ => exact h.elim
theorem call_end {E : Env} {o : Oper} {f : FuncId} {s : FSpec} {args : List SV} {X : Nat → Prop} {vals : List Value} {Q : St → Prop} {K : Act → World → Prop} {Qx : Exit → Act → World → Prop} (h : Rel T W N E) (hf : FOk P T f s) (hbx : s.bx = false)
    (hrun : (execOp E.a.eval o).run P E.w = .ok (.enter f vals.toArray) E.w) (hargs : ArgsR T E.w X vals args) (hX : ∀ b, X b → E.X b) (hpre : s.pre args) (hx : (∀ b, E.X b → X b) ∨ (s.res args).noRefP T)
    (hw : (resSet N o (s.res args)).wp Q E.σ) (hK : ∀ E', Rel T W N E' → Q E'.σ → K E'.a E'.w) : o.wp P E.a E.w K Qx := by
  unfold Oper.wp
  rw [hrun, Oper.upon_enter]
  refine (hf.ok hbx E.w X args vals (fun b hb => h.X_lt (hX b hb)) hargs (h.glob.move (Keeps.refl _ _) (fun b _ hb => hX b hb)) hpre).mono fun e w' ⟨v, bk, he, hb, hr, hbk, hinj⟩ => ?_
  subst he
  unfold resSet at hw
  simp only [Pg.setF_eq] at hw
  split at hw
  · rename_i d hd
    rw [hd]
    refine hK (E.called N d v (s.res args) w' bk) (h.called (Pg.lt_wp hw).1 hb hbk hinj fun st => ?_) (Pg.lt_wp hw).2
    refine ResR.rel (E' := E.called N d v (s.res args) w' bk) hr (fun j => by simp [Env.called]) (hx.imp (fun hx b hb' hXb => ?_) id)
    rcases hXb with hXb | ⟨t, ht, rfl⟩ | ⟨l, j, hl⟩
    · exact .inl (hx _ (.inl hXb))
    · have hat : E.alive t := by
        obtain ⟨m, hm⟩ := ht
        refine ⟨m, ?_⟩
        rw [← hm]
        show _ = (upd _ _ _ _).2
        rw [upd_other (by simp)]
      exact .inl (hx _ (.inr (.inl ⟨t, hat, rfl⟩)))
    · simp only [Env.called] at hl
      split at hl
      · exact .inr ⟨j, hl⟩
      · split at hl
        · cases hl
        · exact .inl (hx _ (.inr (.inr ⟨l, j, hl⟩)))
  · exact hw.elim
theorem call_ok {o : Oper} {f : FuncId} {s : FSpec} {xs : Array Operand} {ts : Array TypeId} (hf : FOk P T f s) (hbx : s.bx = false) (ho : o.op = .call { callee := .value (.func f), args := xs, argTypes := ts }) : OpOk P T W N o (stepCall T N o s xs.toList) := by
  intro E Q K Qx h hw hK
  have hrun : ∀ {E' : Env}, E'.a = E.a → (execOp E'.a.eval o).run P E'.w = .ok (.enter f (xs.toList.map E.a.eval).toArray) E'.w := by
    intro E' ha
    have hmap : xs.map E.a.eval = (xs.toList.map E.a.eval).toArray := by rw [← Array.toList_map]
    simp only [execOp, ho, resolve, Deferred.ofValue, Act.eval, ha, Sem.run_bind, Sem.run_pure, Result.andThen_ok, invoke]
    have := hf.call (xs.map E.a.eval) E'.w
    rw [hmap] at this
    simpa [hmap] using this
  unfold stepCall at hw
  split at hw
  · obtain ⟨args, lent, a1, w1⟩ := argsLend_sound h hw
    exact call_end h hf hbx (hrun rfl) a1 (fun b hb => hb.1) w1.1 (.inr w1.2.1) w1.2.2 hK
  · obtain ⟨args, lent, a1, w1⟩ := argsLend_sound h hw
    split at w1
    · rename_i hn
      exact call_end h hf hbx (hrun rfl) a1 (fun b hb => hb.1) w1.1 (.inr (SV.noRefP_of hn)) w1.2 hK
    · obtain ⟨E', args', r1, s1, b1, w2⟩ := argsPub_sound h w1
      exact s1.run (call_end r1 hf hbx (hrun s1.a) b1 (fun b hb => hb) w2.1 (.inl fun b hb => hb) w2.2 hK)
end
end Go.Proofs.YtaecbmjmcpdgdaaGreat.Ab
namespace Go.Proofs.YtaecbmjmcpdgdaaGreat.Ab
noncomputable section
open Go.RowKit
set_option linter.unusedVariables false
variable {P : Program} {T : Tab} {W : Base} {N : Nat}
theorem rawCells_sound {t : Nat} : ∀ {n p : Nat} {k : List CV → Pg} {Q : St → Prop} {σ : St}, (rawCells t p n k).wp Q σ →
    ∃ cs, cs.length = n ∧ cs.all CV.set = true ∧ (∀ (j : Nat) c, cs[j]? = some c → (σ (.cell t (p + j))).2 = .val false [c]) ∧ (k cs).wp Q σ
  | 0, p, k, Q, σ, hw => ⟨[], rfl, rfl, fun j c h => by simp at h, hw⟩
  | n + 1, p, k, Q, σ, hw => by
    simp only [rawCells, Pg.wp] at hw
    split at hw
    · rename_i c hc
      split at hw
      · rename_i hset
        obtain ⟨cs, h1, h2, h3, h4⟩ := rawCells_sound hw
        refine ⟨c :: cs, by simp [h1], by simp [hset, h2], fun j c' hj => ?_, h4⟩
        cases j with
        | zero =>
          obtain rfl := Option.some.inj hj
          exact hc
        | succ j =>
          rw [show p + (j + 1) = p + 1 + j by omega]
          exact h3 j c' (by simpa using hj)
      · exact hw.elim
    · exact hw.elim
def Env.obOf (E : Env) (t m : Nat) (j : Nat) : Nat → Prop := if j < m then E.bk (.cell t j) 0 else noB
theorem obOf_some {E : Env} {t m j x : Nat} (h : E.obOf t m j x) : j < m ∧ E.bk (.cell t j) 0 x := by
  unfold Env.obOf at h
  split at h
  · rename_i hj; exact ⟨hj, h⟩
  · cases h
theorem RelCV.resC {E : Env} {l : Loc} {j i : Nat} {v : Value} {c : CV} {X : Nat → Prop} {ob : Nat → Nat → Prop} (h : RelCV T W E l j v c) (hs : c.set = true) (hx : ∀ b, b < E.w.heap.size → X b → E.X b) (ho : ob i = E.bk l j) : ResC T E.w X ob i v c := by
  cases c with
  | sl own e rows =>
    cases own with
    | true => exact OwnF.move h (Keeps.refl _ _) hx ho (fun _ _ => rfl)
    | false => exact RdR.move (h : RdR T E.w E.X _ _ _) (Keeps.refl _ _) hx
  | i k n => exact h
  | b x => exact h
  | s x => exact h
  | al q i n => cases hs
  | dead => cases hs
theorem Rel.boxR {E : Env} (h : Rel T W N E) {t m : Nat} (hm : (E.σ (.gen t)).2 = .num m) {cs : List CV} (hl : cs.length = m) (hs : cs.all CV.set = true) (hc : ∀ (j : Nat) c, cs[j]? = some c → (E.σ (.cell t j)).2 = .val false [c])
    {X : Nat → Prop} (hx : ∀ b, b < E.w.heap.size → X b → E.X b) : BoxR T E.w X (E.β t) (E.obOf t m) cs := by
  intro j c hj
  have hjm : j < m := by rw [← hl]; exact (List.getElem?_eq_some_iff.1 hj).1
  obtain ⟨c', v, e1, e2, e3, e4⟩ := h.cell t m j hm hjm
  rw [hc j c hj] at e1
  simp only [SV.val.injEq, List.cons.injEq, and_true, true_and] at e1
  subst e1
  exact ⟨v, e2, e3, e4.resC (List.all_eq_true.1 hs c (List.mem_of_getElem? hj)) hx (by unfold Env.obOf; rw [if_pos hjm])⟩
def Env.back (E : Env) (N t : Nat) (cs' : List CV) (w' : World) (bk ob' : Nat → Nat → Prop) : Env :=
  { E with σ := boxed t 0 cs' E.σ, w := w', bk := fun l j => match l with
     | .slot d => if d = N then bk j else E.bk (.slot d) j
     | .cell x i => if x = t ∧ i < cs'.length then (if j = 0 then ob' i else noB) else E.bk (.cell x i) j
     | .gen x => E.bk (.gen x) j }
section back
variable {E : Env} {t : Nat} {cs' : List CV} {w' : World} {bk ob' : Nat → Nat → Prop} {v : Value} {r : SV}
theorem back_gen {x : Nat} : (E.back N t cs' w' bk ob').σ (.gen x) = E.σ (.gen x) := by show boxed _ _ _ _ _ = _; rw [boxed_out (fun j _ => by simp)]
theorem back_slot {x : Nat} : (E.back N t cs' w' bk ob').σ (.slot x) = E.σ (.slot x) := by show boxed _ _ _ _ _ = _; rw [boxed_out (fun j _ => by simp)]
theorem back_in {j : Nat} {c : CV} (h : cs'[j]? = some c) : (E.back N t cs' w' bk ob').σ (.cell t j) = ((E.σ (.cell t j)).1 + 1, .val false [c]) := by
  show boxed _ _ _ _ _ = _
  have := boxed_in (b := t) (p := 0) (σ := E.σ) h
  rw [Nat.zero_add] at this
  exact this
theorem back_out {x i : Nat} (h : ¬ (x = t ∧ i < cs'.length)) : (E.back N t cs' w' bk ob').σ (.cell x i) = E.σ (.cell x i) := by
  show boxed _ _ _ _ _ = _
  rw [boxed_out (fun j hj => by simp; intro h1 h2; exact h ⟨h1, by omega⟩)]
theorem back_alive {x : Nat} : (E.back N t cs' w' bk ob').alive x ↔ E.alive x := by unfold Env.alive; rw [back_gen]
theorem back_bk {l : Loc} {j x : Nat} (h : (E.back N t cs' w' bk ob').bk l j x) :
    (l = .slot N ∧ bk j x) ∨ (∃ i, l = .cell t i ∧ j = 0 ∧ i < cs'.length ∧ ob' i x) ∨ (l ≠ .slot N ∧ (∀ i, i < cs'.length → l ≠ .cell t i) ∧ E.bk l j x) := by
  cases l with
  | slot d =>
    simp only [Env.back] at h
    split at h
    · rename_i hd; subst hd; exact .inl ⟨rfl, h⟩
    · rename_i hd; exact .inr (.inr ⟨by simpa using hd, fun i _ => by simp, h⟩)
  | cell x' i =>
    simp only [Env.back] at h
    split at h
    · rename_i hi
      obtain ⟨rfl, hi⟩ := hi
      split at h
      · rename_i hj; subst hj; exact .inr (.inl ⟨i, rfl, rfl, hi, h⟩)
      · cases h
    · rename_i hi
      exact .inr (.inr ⟨by simp, fun i' hi' he => by
        simp only [Loc.cell.injEq] at he
        exact hi ⟨he.1, by omega⟩, h⟩)
  | gen x' => exact .inr (.inr ⟨by simp, fun i _ => by simp, h⟩)
theorem Rel.back (h : Rel T W N E) (hm : (E.σ (.gen t)).2 = .num cs'.length) {X : Nat → Prop} (hX : ∀ x, E.X x → ¬ boxB (E.β t) (E.obOf t cs'.length) x → X x)
    (he : BoxEnd T E.w w' X (E.β t) (E.obOf t cs'.length) bk ob' v r cs') : Rel T W N (E.back N t cs' w' bk ob') ∧ Step E (E.back N t cs' w' bk ob') ∧ RelSV T W (E.back N t cs' w' bk ob') (.slot N) v r := by
  have hat : E.alive t := ⟨_, hm⟩
  have hbox : ∀ x, boxB (E.β t) (E.obOf t cs'.length) x → E.X x := fun x hx => by
    rcases hx with rfl | ⟨j, hj⟩
    · exact .inr (.inl ⟨t, hat, rfl⟩)
    · exact .inr (.inr ⟨_, _, (obOf_some hj).2⟩)
  have notbox : ∀ t', E.alive t' → t' ≠ t → ¬ boxB (E.β t) (E.obOf t cs'.length) (E.β t') := fun t' ha hne hx => by
    rcases hx with hx | ⟨j, hj⟩
    · exact hne (h.bxinj t' t ha hat hx)
    · exact h.owbx _ _ _ t' (obOf_some hj).2 ha rfl
  have notown : ∀ l j x, E.bk l j x → (∀ i, i < cs'.length → l ≠ .cell t i) → ¬ boxB (E.β t) (E.obOf t cs'.length) x := fun l j x hl hne hx => by
    rcases hx with hx | ⟨i, hi⟩
    · exact h.owbx _ _ _ t hl hat hx
    · obtain ⟨hi, hb⟩ := obOf_some hi
      exact hne i hi (h.owinj _ _ _ _ _ hl hb).1
  have heap : ∀ x, x < E.w.heap.size → ¬ boxB (E.β t) (E.obOf t cs'.length) x → w'.heap[x]? = E.w.heap[x]? := he.block
  have old : ∀ x, (E.w.heap.size ≤ x ∨ ∃ i, E.obOf t cs'.length i x) → x < E.w.heap.size → E.X x := fun x hx hlt => by
    rcases hx with hx | ⟨i, hi⟩
    · omega
    · exact hbox x (.inr ⟨i, hi⟩)
  have s : Step E (E.back N t cs' w' bk ob') := by
    refine ⟨fun q => ?_, fun _ _ => rfl, ⟨he.size, fun x hx hn => heap x hx (fun hb => hn (hbox x hb))⟩, fun x hx hb => ?_⟩
    · cases q with
      | slot x => rw [back_slot]; exact ⟨Nat.le_refl _, fun _ _ => rfl⟩
      | gen x => rw [back_gen]; exact ⟨Nat.le_refl _, fun _ _ => rfl⟩
      | cell x i =>
        by_cases hin : x = t ∧ i < cs'.length
        · obtain ⟨rfl, hi⟩ := hin
          rw [back_in (List.getElem?_eq_getElem hi)]
          exact ⟨by simp, fun h => absurd h (by simp)⟩
        · rw [back_out hin]
          refine ⟨Nat.le_refl _, fun _ i' => ?_⟩
          by_cases hxt : x = t
          · subst hxt
            show Env.cellAt _ _ _ _ = Env.cellAt _ _ _ _
            rw [back_gen, hm]
            unfold Env.cellAt
            have hi : ¬ i < cs'.length := fun hi => hin ⟨rfl, hi⟩
            simp only
            rw [if_neg hi, if_neg hi]
          · exact Env.cellAt_congr (fun m => by rw [back_gen]) (fun m hm' => World.cell?_of_block (w := E.w) (heap _ (h.bxlo x ⟨m, hm'⟩).2 (notbox x ⟨m, hm'⟩ hxt)))
    · rcases hb with hb | ⟨t', ht, rfl⟩ | ⟨l, j, hl⟩
      · exact .inl hb
      · exact .inr (.inl ⟨t', back_alive.1 ht, rfl⟩)
      · rcases back_bk hl with ⟨_, h3⟩ | ⟨i, _, _, _, h3⟩ | ⟨_, _, h3⟩
        · exact old x (he.bkl _ _ h3).1 hx
        · exact old x (he.obl _ _ h3).1 hx
        · exact .inr (.inr ⟨l, j, h3⟩)
  have less : ∀ x, (E.back N t cs' w' bk ob').X x → X x ∨ boxB (E.β t) ob' x ∨ ∃ j, bk j x := fun x hb => by
    rcases hb with hb | ⟨t', ht, rfl⟩ | ⟨l, j, hl⟩
    · left
      have hx0 : E.x0 x := hb
      refine hX x (.inl hx0) (fun hbx => ?_)
      have hx0' : W.x0 x := h.x0 ▸ hx0
      have mine : W.mine x := by
        rcases hbx with rfl | ⟨i, hi⟩
        · exact (h.bxlo t hat).1
        · exact (h.owlo _ _ _ (obOf_some hi).2).1
      rcases mine with hm' | hm'
      · have := W.x0lt x hx0'; omega
      · exact W.lentx x hm' hx0'
    · by_cases e : t' = t
      · subst e; exact .inr (.inl (.inl rfl))
      · have ha' := back_alive.1 ht
        exact .inl (hX _ (.inr (.inl ⟨t', ha', rfl⟩)) (notbox t' ha' e))
    · rcases back_bk hl with ⟨_, h3⟩ | ⟨i, _, _, _, h3⟩ | ⟨_, h2, h3⟩
      · exact .inr (.inr ⟨j, h3⟩)
      · exact .inr (.inl (.inr ⟨i, h3⟩))
      · exact .inl (hX x (.inr (.inr ⟨l, j, h3⟩)) (notown l j x h3 h2))
  have mine : ∀ x, (E.w.heap.size ≤ x ∨ ∃ i, E.obOf t cs'.length i x) → W.mine x := fun x hx => by
    rcases hx with hx | ⟨i, hi⟩
    · exact .inl (Nat.le_trans h.base.size hx)
    · exact (h.owlo _ _ _ (obOf_some hi).2).1
  have fresh : ∀ x l j, (E.w.heap.size ≤ x ∨ ∃ i, E.obOf t cs'.length i x) → E.bk l j x → (∀ i, i < cs'.length → l ≠ .cell t i) → False := fun x l j hx hl hne => by
    rcases hx with hx | ⟨i, hi⟩
    · have := (h.owlo _ _ _ hl).2; omega
    · obtain ⟨hi, hb⟩ := obOf_some hi
      exact hne i hi (h.owinj _ _ _ _ _ hl hb).1
  have hres : RelSV T W (E.back N t cs' w' bk ob') (.slot N) v r := he.res.rel (E' := E.back N t cs' w' bk ob') (d := N) (fun j => by simp [Env.back]) (.inl fun b _ hb => less b hb)
  refine ⟨?_, s, hres⟩
  refine h.next s ?_ h.defers h.size (fun x => ?_) (fun x m j hm' hj => ?_) (fun x ha => ?_) (fun x x' h1 h2 e => h.bxinj x x' (back_alive.1 h1) (back_alive.1 h2) e) (fun l j x hl => ?_) (fun l j l' j' x hl hl' => ?_) (fun l j x t' hl ha => ?_)
  · exact h.base.next he.os he.tape he.output he.size (fun k hk hn => heap k hk (fun hb => hn (by
      rcases hb with rfl | ⟨i, hi⟩
      · exact (h.bxlo t hat).1
      · exact (h.owlo _ _ _ (obOf_some hi).2).1)))
  · by_cases eN : x = N
    · subst eN
      right
      rw [back_slot]
      exact (h.slot x).step s (fun j ho => (h.ghostA ho).elim)
    · left
      refine ⟨by rw [back_slot], rfl, fun j => ⟨by simp [Env.back, eN], fun g hg => heap g (h.owlo _ _ _ hg).2 (notown _ _ _ hg (fun i _ => by simp))⟩⟩
  · rw [back_gen] at hm'
    by_cases hxt : x = t
    · subst hxt
      right
      rw [hm] at hm'
      simp only [SV.num.injEq] at hm'
      subst hm'
      obtain ⟨u, e1, e2, e3⟩ := he.box j cs'[j] (List.getElem?_eq_getElem hj)
      refine ⟨cs'[j], u, by rw [back_in (List.getElem?_eq_getElem hj)], e1, e2, ?_⟩
      have hbk : (E.back N x cs' w' bk ob').bk (.cell x j) 0 = ob' j := by simp [Env.back, hj]
      cases hcj : cs'[j] with
      | sl own e rows =>
        rw [hcj] at e3
        cases own with
        | true => exact OwnF.move (e3 : OwnF T w' _ _ e u rows) (Keeps.refl _ _) (fun b _ hb => less b hb) hbk (fun _ _ => rfl)
        | false => exact RdR.move (e3 : RdR T w' _ _ _ _) (Keeps.refl _ _) (fun b _ hb => less b hb)
      | i k n => rw [hcj] at e3; exact e3
      | b y => rw [hcj] at e3; exact e3
      | s y => rw [hcj] at e3; exact e3
      | al q i n => rw [hcj] at e3; exact e3.elim
      | dead => rw [hcj] at e3; exact e3.elim
    · left
      have ha : E.alive x := ⟨m, hm'⟩
      have hh : w'.heap[E.β x]? = E.w.heap[E.β x]? := heap _ (h.bxlo x ha).2 (notbox x ha hxt)
      exact ⟨hm', by rw [back_out (fun hh => hxt hh.1)], World.cell?_of_block (w := E.w) hh, World.frozen?_of_block (w := E.w) hh, by simp [Env.back, hxt], fun g hg => heap g (h.owlo _ _ _ hg).2 (notown _ _ _ hg (fun i _ => by simp [hxt]))⟩
  · have := h.bxlo x (back_alive.1 ha)
    have := he.size
    exact ⟨(h.bxlo x (back_alive.1 ha)).1, by show E.β x < w'.heap.size; omega⟩
  · rcases back_bk hl with ⟨_, h3⟩ | ⟨i, _, _, _, h3⟩ | ⟨_, _, h3⟩
    · exact ⟨mine x (he.bkl _ _ h3).1, (he.bkl _ _ h3).2⟩
    · exact ⟨mine x (he.obl _ _ h3).1, (he.obl _ _ h3).2⟩
    · have := h.owlo _ _ _ h3
      have := he.size
      exact ⟨(h.owlo _ _ _ h3).1, by show x < w'.heap.size; omega⟩
  · rcases back_bk hl with ⟨rfl, h3⟩ | ⟨i, rfl, rfl, _, h3⟩ | ⟨n1, n2, h3⟩
    · rcases back_bk hl' with ⟨rfl, h3'⟩ | ⟨i', rfl, rfl, _, h3'⟩ | ⟨n1', n2', h3'⟩
      · exact ⟨rfl, he.bki _ _ _ h3 h3'⟩
      · exact (he.bko _ _ _ h3 h3').elim
      · exact (fresh x l' j' (he.bkl _ _ h3).1 h3' n2').elim
    · rcases back_bk hl' with ⟨rfl, h3'⟩ | ⟨i', rfl, rfl, _, h3'⟩ | ⟨n1', n2', h3'⟩
      · exact (he.bko _ _ _ h3' h3).elim
      · rw [he.obi _ _ _ h3 h3']; exact ⟨rfl, rfl⟩
      · exact (fresh x l' j' (he.obl _ _ h3).1 h3' n2').elim
    · rcases back_bk hl' with ⟨rfl, h3'⟩ | ⟨i', rfl, rfl, _, h3'⟩ | ⟨n1', n2', h3'⟩
      · exact (fresh x l j (he.bkl _ _ h3').1 h3 n2).elim
      · exact (fresh x l j (he.obl _ _ h3').1 h3 n2).elim
      · exact h.owinj _ _ _ _ _ h3 h3'
  · have ha' := back_alive.1 ha
    have bl := (h.bxlo t' ha').2
    have oldb : ∀ x, (E.w.heap.size ≤ x ∨ ∃ i, E.obOf t cs'.length i x) → x ≠ E.β t' := fun x hx hxe => by
      rcases hx with hx | ⟨i, hi⟩
      · omega
      · exact h.owbx _ _ _ t' (obOf_some hi).2 ha' hxe
    rcases back_bk hl with ⟨_, h3⟩ | ⟨i, _, _, _, h3⟩ | ⟨_, _, h3⟩
    · exact oldb x (he.bkl _ _ h3).1
    · exact oldb x (he.obl _ _ h3).1
    · exact h.owbx _ _ _ t' h3 ha'
end back
theorem callB_ok {o : Oper} {f : FuncId} {s : FSpec} {xs : Array Operand} {ts : Array TypeId} (hf : FOk P T f s) (hbx : s.bx = true) (hnb : s.nb = false) (ho : o.op = .call { callee := .value (.func f), args := xs, argTypes := ts }) : OpOk P T W N o (stepCallB N o s xs.toList) := by
  intro E Q K Qx h hw hK
  have hrun : ∀ {E' : Env}, E'.a = E.a → (execOp E'.a.eval o).run P E'.w = .ok (.enter f (xs.toList.map E.a.eval).toArray) E'.w := by
    intro E' ha
    have hmap : xs.map E.a.eval = (xs.toList.map E.a.eval).toArray := by rw [← Array.toList_map]
    simp only [execOp, ho, resolve, Deferred.ofValue, Act.eval, ha, Sem.run_bind, Sem.run_pure, Result.andThen_ok, invoke]
    have := hf.call (xs.map E.a.eval) E'.w
    rw [hmap] at this
    simpa [hmap] using this
  unfold stepCallB at hw
  split at hw
  · rename_i x0 xr hxs
    obtain ⟨E1, args, r1, s1, b1, w1⟩ := argsPub_sound h hw
    obtain ⟨sv, h1, _f1, h3⟩ := rdv_sound r1 w1 (.slot N)
    split at h3
    · rename_i t g
      obtain ⟨e1, e2⟩ := h1
      simp only [Pg.wp] at h3
      split at h3
      · rename_i hg
        split at h3
        · rename_i m hm
          obtain ⟨cs, l1, l2, l3, w2⟩ := rawCells_sound h3
          simp only [Nat.zero_add] at l3
          obtain ⟨hpre, hlen, w3⟩ := w2
          have hat : E1.alive t := ⟨m, hm⟩
          have hptr : E1.a.eval x0 = .pointer (some ⟨E1.β t, 0, none⟩) := e2 hg
          refine s1.run ?_
          unfold Oper.wp
          rw [hrun s1.a, Oper.upon_enter, hxs, List.map_cons, ← s1.a, hptr]
          let X : Nat → Prop := fun x => E1.X x ∧ ¬ boxB (E1.β t) (E1.obOf t m) x
          have hxx : ∀ b, b < E1.w.heap.size → (X b ∨ boxB (E1.β t) (E1.obOf t m) b) → E1.X b := fun b _ hb => by
            rcases hb with hb | rfl | ⟨j, hj⟩
            · exact hb.1
            · exact .inr (.inl ⟨t, hat, rfl⟩)
            · exact .inr (.inr ⟨_, _, (obOf_some hj).2⟩)
          have hargs : ArgsR T E1.w (fun x => X x ∨ boxB (E1.β t) (E1.obOf t m) x) (xr.map E1.a.eval) args := by
            have b1' := b1
            rw [show xr.map E.a.eval = xr.map E1.a.eval by rw [s1.a]] at b1'
            exact b1'.less hxx
          refine (hf.okb hbx hnb E1.w X (E1.β t) (E1.obOf t m) cs args (xr.map E1.a.eval) (fun x hx => r1.X_lt hx.1) (r1.bxlo t hat).2 (fun hx => hx.2 (.inl rfl)) (fun j x hj => ⟨(r1.owlo _ _ _ (obOf_some hj).2).2, fun hx => hx.2 (.inr ⟨j, hj⟩), r1.owbx _ _ _ t (obOf_some hj).2 hat⟩)
            (fun j j' x hj hj' => by
              have := (r1.owinj _ _ _ _ _ (obOf_some hj).2 (obOf_some hj').2).1
              simpa using this) (r1.boxR hm l1 l2 l3 hxx) hargs (r1.glob.move (Keeps.refl _ _) hxx) hpre).mono fun e w' ⟨v, bk, ob', he, hend⟩ => ?_
          subst he
          have hm' : (E1.σ (.gen t)).2 = .num (s.upd (.tup [(true, cs)] :: args)).length := by rw [hlen]; exact hm
          have hend' : BoxEnd T E1.w w' X (E1.β t) (E1.obOf t (s.upd (.tup [(true, cs)] :: args)).length) bk ob' v (s.res (.tup [(true, cs)] :: args)) (s.upd (.tup [(true, cs)] :: args)) := by rw [hlen]; exact hend
          obtain ⟨q1, q2, q3⟩ := r1.back hm' (X := X) (fun x hx hn => ⟨hx, by rw [hlen] at hn; exact hn⟩) hend'
          unfold boxSet at w3
          rw [setBox_wp] at w3
          split at w3
          · rename_i d hd
            rw [Pg.setF_eq] at w3
            rw [hd]
            exact hK _ (q1.lay (Pg.lt_wp w3).1 q3) (Pg.lt_wp w3).2
          · rename_i hd
            rw [hd]
            exact hK _ q1 w3
        · exact h3.elim
      · exact h3.elim
    · exact h3.elim
  · exact hw.elim
theorem putBox_end {E : Env} {o : Oper} {Q : St → Prop} {K : Act → World → Prop} {cs : List CV} {us : List Value} {et : TypeId} (h : Rel T W N E) (hc : CellsR T W E (.slot N) 0 cs us)
    (hw : (putBox N o cs).wp Q E.σ) (hK : ∀ E', Rel T W N E' → Q E'.σ → K E'.a E'.w) : K (E.a.put o.dst (.pointer (some ⟨E.w.heap.size, 0, none⟩))) (E.w.alloc (.cells us.toArray et)) := by
  unfold putBox at hw
  split at hw
  · rename_i d hd
    rw [hd]
    have fin : (∀ m, (E.σ (.gen d)).2 = .num m → m = cs.length) → (Pg.lt d N (setBox d 0 cs (.set 1 (.gen d) (.num cs.length) (.set 1 (.slot d) (.ptr d ((E.σ (.gen d)).1 + 1) 0) .done)))).wp Q E.σ → K (E.a.put (some d) (.pointer (some ⟨E.w.heap.size, 0, none⟩))) (E.w.alloc (.cells us.toArray et)) := by
      intro hold hw
      obtain ⟨hdN, hw⟩ := Pg.lt_wp hw
      rw [setBox_wp] at hw
      exact hK _ (h.made (b := d) hold hdN hc rfl) hw
    simp only [Pg.wp] at hw
    split at hw
    · rename_i m hm
      split at hw
      · rename_i hmc
        exact fin (fun m' hm' => by rw [hm] at hm'; simp only [SV.num.injEq] at hm'; omega) hw
      · exact hw.elim
    · rename_i hno
      exact fin (fun m' hm' => absurd hm' (hno m')) hw
  · exact hw.elim
theorem callN_ok {o : Oper} {f : FuncId} {s : FSpec} {xs : Array Operand} {ts : Array TypeId} (hf : FOk P T f s) (hbx : s.bx = true) (hnb : s.nb = true) (ho : o.op = .call { callee := .value (.func f), args := xs, argTypes := ts }) : OpOk P T W N o (stepCallN N o s xs.toList) := by
  intro E Q K Qx h hw hK
  have hrun : ∀ {E' : Env}, E'.a = E.a → (execOp E'.a.eval o).run P E'.w = .ok (.enter f (xs.toList.map E.a.eval).toArray) E'.w := by
    intro E' ha
    have hmap : xs.map E.a.eval = (xs.toList.map E.a.eval).toArray := by rw [← Array.toList_map]
    simp only [execOp, ho, resolve, Deferred.ofValue, Act.eval, ha, Sem.run_bind, Sem.run_pure, Result.andThen_ok, invoke]
    have := hf.call (xs.map E.a.eval) E'.w
    rw [hmap] at this
    simpa [hmap] using this
  obtain ⟨E', args', r1, s1, b1, w2⟩ := argsPub_sound h hw
  refine s1.run ?_
  unfold Oper.wp
  rw [hrun s1.a, Oper.upon_enter]
  refine (hf.okn hbx hnb E'.w E'.X args' _ (fun b hb => r1.X_lt hb) b1 w2.1).mono fun e w' ⟨us, et, he, hw', hl, hc⟩ => ?_
  subst he
  subst hw'
  exact putBox_end r1 ⟨hl, fun i c u h1 h2 => ((hc i c u h1 h2).rel (.inl fun b _ hb => hb)).1⟩ w2.2 hK
theorem callAny_ok {o : Oper} {f : FuncId} {s : FSpec} {xs : Array Operand} {ts : Array TypeId} (hf : FOk P T f s) (ho : o.op = .call { callee := .value (.func f), args := xs, argTypes := ts }) : OpOk P T W N o (stepCallAny T N o s xs.toList) := by
  unfold stepCallAny
  split
  · rename_i hb; exact call_ok hf hb ho
  · rename_i hb
    split
    · rename_i hn; exact callB_ok hf hb hn ho
    · rename_i hn; exact callN_ok hf hb hn ho
end
end Go.Proofs.YtaecbmjmcpdgdaaGreat.Ab
namespace Go.Proofs.YtaecbmjmcpdgdaaGreat.Ab
noncomputable section
open Go.RowKit
set_option linter.unusedVariables false
variable {P : Program} {T : Tab} {W : Base} {N : Nat}
def stepLoadG (T : Tab) (N : Nat) (o : Oper) (t : TypeId) (g : Nat) : Pg :=
  match T t, T.gl.find? (·.1 == g) with
  | some ty, some p => match rCells ty.cts p.2 with
    | some cs => dstSet N o (.val ty.agg cs)
    | none => .fail
  | _, _ => .fail
theorem cells_of_rd {E : Env} {b p : Nat} {ps : List (CT × D)} (h : ∀ (j : Nat) q, ps[j]? = some q → ∃ u, E.w.cell? ⟨b, p + j, none⟩ = some u ∧ RdR T E.w E.X q.1 u q.2) : ∀ (l : List CV) (i : Nat), (∀ (j : Nat) c, l[j]? = some c → ∃ q, ps[i + j]? = some q ∧ c = ofD q.1 q.2) →
    ∃ us : List Value, us.length = l.length ∧ (∀ (j : Nat) u, us[j]? = some u → E.w.cell? ⟨b, p + (i + j), none⟩ = some u) ∧ ∀ (j : Nat) c u, l[j]? = some c → us[j]? = some u → ∀ l' j', RelCV T W E l' j' u c := by
  intro l
  induction l with
  | nil => intro i _; exact ⟨[], rfl, fun j u hu => by simp at hu, fun j c u hc => by simp at hc⟩
  | cons c r ih =>
    intro i hl
    obtain ⟨q, hq, rfl⟩ := hl 0 c rfl
    obtain ⟨u, hu, hr⟩ := h i q (by simpa using hq)
    obtain ⟨us, b1, b2, b3⟩ := ih (i + 1) (fun j c' hc' => by
      have := hl (j + 1) c' (by simpa using hc')
      rw [show i + 1 + j = i + (j + 1) by omega]; exact this)
    refine ⟨u :: us, by simp [b1], fun j u' hu' => ?_, fun j c' u' hc' hu' l' j' => ?_⟩
    · cases j with
      | zero => obtain rfl := Option.some.inj hu'; exact hu
      | succ j =>
        have := b2 j u' (by simpa using hu')
        rw [show i + (j + 1) = i + 1 + j by omega]; exact this
    · cases j with
      | zero =>
        obtain rfl := Option.some.inj hc'
        obtain rfl := Option.some.inj hu'
        exact hr.relCV l' j'
      | succ j => exact b3 j c' u' (by simpa using hc') (by simpa using hu') l' j'
theorem loadG_ok (hT : TabOk P T) {o : Oper} {t : TypeId} {g : Nat} (ho : o.op = .load t (.global g)) : OpOk P T W N o (stepLoadG T N o t g) := by
  intro E Q K Qx h hw hK
  unfold stepLoadG at hw
  split at hw
  · rename_i ty p hty hg
    have hp := List.mem_of_find?_eq_some hg
    have he : p.1 = g := by simpa using List.find?_some hg
    obtain ⟨h1, h2, _, h3⟩ := h.glob.1 p hp
    rw [he] at h3
    split at hw
    · rename_i cs hcs
      obtain ⟨a1, a2⟩ := rCells_spec hcs
      obtain ⟨us, b1, b2, b3⟩ := cells_of_rd (W := W) (E := E) (b := g) (p := 0) (ps := p.2) (fun j q hq => by rw [Nat.zero_add]; exact h3 j q hq) cs 0 (fun j c hc => by rw [Nat.zero_add]; exact a2 j c hc)
      obtain ⟨v, r1, r2⟩ := run_load (W := W) (N := N) hT ho hty (b := g) (p := 0) rfl (cs := cs) (us := us) ⟨b1.symm, fun i c u hc hu => b3 i c u hc hu _ _⟩ a1 (fun j u hu => by have := b2 j u hu; rwa [Nat.zero_add] at this)
      exact sound_value h r1 r2 hw hK
    · exact hw.elim
  · exact hw.elim
def bytesOf (rows : List (List D)) : ByteArray := ⟨(rows.map fun r => UInt8.ofNat (r.getD 0 default).int.toNat).toArray⟩
def bytesD (s : ByteArray) : List (List D) := s.data.toList.map fun b => [.i (b.toNat : Int)]
def readRows (x : Operand) (k : TypeId → List (List D) → Pg) : Pg :=
  rdv x fun sv => match sv with
    | .val false [.sl false e rows] => k e rows
    | .val false [.al q j v] => look q j v fun _ _ _ e rows => k e rows
    | _ => .fail
theorem readRows_sound {E : Env} (h : Rel T W N E) {x : Operand} {k : TypeId → List (List D) → Pg} {Q : St → Prop} (hw : (readRows x k).wp Q E.σ) :
    ∃ own q i e rows, RelCV T W E q i (E.a.eval x) (.sl own e rows) ∧ (k e rows).wp Q E.σ := by
  unfold readRows at hw
  obtain ⟨sv, h1, _f1, h3⟩ := rdv_sound h hw (.slot N)
  split at h3
  · rename_i e rows
    exact ⟨false, .slot N, 0, e, rows, h1.cell1, h3⟩
  · rename_i q j v
    obtain ⟨ag, cs, own, e, rows, g1, g2, g3, g4, g5⟩ := look_sound h h3 h1.cell1
    exact ⟨own, q, j, e, rows, g4, g5⟩
  · exact h3.elim
def stepStr (T : Tab) (N : Nat) (o : Oper) (src dst : TypeId) (x : Operand) : Pg :=
  match elemT T src, T dst with
  | some (e, te), some td => match te.agg, te.cts, td.agg, td.cts with
    | false, [.i .u8], false, [.s] => readRows x fun e' rows => if e' = e then dstSet N o (.val false [.s (bytesOf rows)]) else .fail
    | _, _, _, _ => .fail
  | _, _ => .fail
theorem str_ok (hT : TabOk P T) {o : Oper} {src dst : TypeId} {x : Operand} (ho : o.op = .convert src dst x) : OpOk P T W N o (stepStr T N o src dst x) := by
  intro E Q K Qx h hw hK
  unfold stepStr at hw
  split at hw
  · rename_i e te td hsrc hdst
    obtain ⟨hu, hte, hTe⟩ := elemT_spec hT hsrc
    split at hw
    · rename_i a1 a2 a3 a4
      obtain ⟨c, hc, hue⟩ := hte.one a1
      rw [a2] at hc
      obtain rfl : CT.i .u8 = c := by simpa using hc
      obtain ⟨c', hc', hud⟩ := (hT dst td hdst).one a3
      rw [a4] at hc'
      obtain rfl : CT.s = c' := by simpa using hc'
      obtain ⟨own, q, i, e', rows, g4, g5⟩ := readRows_sound h hw
      split at g5
      · rename_i he
        subst he
        obtain ⟨A, cap, s1, s2, s3⟩ := slice_len g4
        have hsz : (bytesOf rows).size ≤ maxLen := by
          show (rows.map _).toArray.size ≤ maxLen
          simp only [List.size_toArray, List.length_map]
          omega
        refine sound_value h (v := .string (bytesOf rows)) ?_ (mkStr E _ _ hsz) g5 hK
        have conv : (convert src dst (E.a.eval x)).run P E.w = .ok (.string (bytesOf rows)) E.w := by
          by_cases hn : rows = []
          · subst hn
            rw [s1, List.length_nil]
            cases A with
            | none =>
              rw [run_convert_bytes_string E.w src dst e' none 0 cap hu hue hud]
              rfl
            | some a => exact run_convert_bytes_back (P := P) E.w src dst e' a cap [] hu hue hud (fun j hj => absurd hj (by simp))
          · obtain ⟨b, p, cap', s1', _⟩ := slice_row g4 hTe (k := 0) (List.length_pos_iff.2 hn)
            rw [s1']
            have := run_convert_bytes_back (P := P) E.w src dst e' ⟨b, p, none⟩ cap' (rows.map fun r => UInt8.ofNat (r.getD 0 default).int.toNat) hu hue hud (fun j hj => by
              have hj' : j < rows.length := by simpa using hj
              obtain ⟨b2, p2, cap2, t1, t2, t3⟩ := slice_row g4 hTe hj'
              rw [s1'] at t1
              simp only [Value.slice.injEq, Option.some.injEq, Addr.mk.injEq] at t1
              obtain ⟨⟨rfl, rfl, _⟩, _, _⟩ := t1
              obtain ⟨v, v1, v2⟩ := t3 0 (.i .u8) (by rw [a2]; rfl)
              have v2 := v2 fun _ _ e' he => by cases he
              rw [a2] at v1
              simp only [List.length_cons, List.length_nil, Nat.zero_add, Nat.mul_one, Nat.add_zero] at v1
              rw [Addr.add_mid, v1]
              generalize hd : (rows.getD j []).getD 0 default = d at v2
              cases v2 with
              | int k n hk =>
                have hk' : 0 ≤ n ∧ n ≤ 255 := by
                  have e1 : IntKind.u8.min = 0 := by decide
                  have e2 : IntKind.u8.max = 255 := by decide
                  rw [inK, e1, e2] at hk
                  exact hk
                have hx : (rows[j].getD 0 default) = .i n := by
                  rw [← hd]
                  simp [List.getD_eq_getElem?_getD, List.getElem?_eq_getElem hj']
                simp only [List.getElem_map, hx, D.int]
                congr 2
                have : (UInt8.ofNat n.toNat).toNat = n.toNat := by simp; omega
                omega)
            simp only [List.length_map] at this
            exact this
        simp only [execOp, ho, Sem.run_bind, conv, Result.andThen_ok]
        rfl
      · exact g5.elim
    · exact hw.elim
  · exact hw.elim
def stepBytes (T : Tab) (N : Nat) (o : Oper) (src dst : TypeId) (x : Operand) : Pg :=
  match T src, elemT T dst with
  | some ts, some (e, te) => match ts.agg, ts.cts, te.agg, te.cts with
    | false, [.s], false, [.i .u8] => rdv x fun sv => match sv with
      | .val false [.s a] => resSet N o (.val false [.sl false e (bytesD a)])
      | _ => .fail
    | _, _, _, _ => .fail
  | _, _ => .fail
theorem bytesD_length (s : ByteArray) : (bytesD s).length = s.size := by simp [bytesD]
theorem bytes_ok (hT : TabOk P T) {o : Oper} {src dst : TypeId} {x : Operand} (ho : o.op = .convert src dst x) : OpOk P T W N o (stepBytes T N o src dst x) := by
  intro E Q K Qx h hw hK
  unfold stepBytes at hw
  split at hw
  · rename_i ts e te hsrc hdst
    obtain ⟨hu, hte, hTe⟩ := elemT_spec hT hdst
    split at hw
    · rename_i a1 a2 a3 a4
      obtain ⟨c, hc, hus⟩ := (hT src ts hsrc).one a1
      rw [a2] at hc
      obtain rfl : CT.s = c := by simpa using hc
      obtain ⟨c', hc', hue⟩ := hte.one a3
      rw [a4] at hc'
      obtain rfl : CT.i .u8 = c' := by simpa using hc'
      obtain ⟨sv, h1, _f1, h3⟩ := rdv_sound h hw (.slot N)
      split at h3
      · rename_i a
        obtain ⟨ea, la⟩ := h1.str
        have hrun := run_bytes_of_string (P := P) E.w src dst e a hus hu hue
        unfold Oper.wp
        have hx : (execOp E.a.eval o).run P E.w = .ok (.value (.slice (some ⟨E.w.heap.size, 0, none⟩) a.size (grownCap E.w a.size 0 e))) (E.w.drew.alloc (.cells (bytesRow a (grownCap E.w a.size 0 e)) e ((bytesRow a (grownCap E.w a.size 0 e)).size, (bytesRow a (grownCap E.w a.size 0 e)).size + 1))) := by
          simp only [execOp, ho, ea, Sem.run_bind, hrun, Result.andThen_ok]
          rfl
        rw [hx, Oper.upon_value]
        have hcap1 := grownCap_ge E.w a.size 0 e
        have hcap2 := grownCap_le_maxLen E.w a.size 0 e la
        have hcell : ∀ k, k < a.size → (bytesRow a (grownCap E.w a.size 0 e))[k]? = some (.int .u8 ((a.data.toList.getD k 0).toNat : Int)) := fun k hk => by
          have hk' : k < a.data.size := hk
          unfold bytesRow
          rw [Array.getElem?_append_left (by simpa using hk')]
          rw [Array.getElem?_map, Array.getElem?_eq_getElem hk', List.getD_eq_getElem?_getD, Array.getElem?_toList, Array.getElem?_eq_getElem hk']
          rfl
        generalize bytesRow a (grownCap E.w a.size 0 e) = C at *
        generalize grownCap E.w a.size 0 e = cap at *
        have hb : Below E.w.heap.size E.w (E.w.drew.alloc (.cells C e (C.size, C.size + 1))) := (Below.drew (Below.refl _ _)).alloc (Nat.le_refl E.w.heap.size) _
        unfold resSet at h3
        split at h3
        · rename_i d hd
          rw [Pg.setF_eq] at h3
          rw [hd]
          refine hK (E.called N d (.slice (some ⟨E.w.heap.size, 0, none⟩) a.size cap) (.val false [.sl false e (bytesD a)]) (E.w.drew.alloc (.cells C e (C.size, C.size + 1))) fun _ => noB) (h.called (Pg.lt_wp h3).1 hb (fun j b h => by cases h) (fun j j' b h => by cases h) fun s => ⟨_, rfl, ?_⟩) (Pg.lt_wp h3).2
          show RdR T (E.w.drew.alloc (.cells C e (C.size, C.size + 1))) (E.called N d (.slice (some ⟨E.w.heap.size, 0, none⟩) a.size cap) (.val false [.sl false e (bytesD a)]) (E.w.drew.alloc (.cells C e (C.size, C.size + 1))) fun _ => noB).X (.l e) _ (.l (bytesD a))
          by_cases hz : a.size = 0
          · have : bytesD a = [] := List.length_eq_zero_iff.1 ((bytesD_length a).trans hz)
            rw [this, hz]
            exact .nil e _ cap hcap2
          · rw [← bytesD_length a]
            have hnew : (E.w.drew.alloc (.cells C e (C.size, C.size + 1))).heap[E.w.heap.size]? = some (.cells C e (C.size, C.size + 1)) := heap_alloc_new _ _
            refine .sl e te E.w.heap.size 0 cap (bytesD a) (fun k j => .int .u8 ((a.data.toList.getD k 0).toNat : Int)) hTe (by rw [bytesD_length]; exact hcap1) hcap2 (fun hx => ?_) (by show _ < (E.w.drew.alloc _).heap.size; simp) (fun k j hk hj => ?_) (fun k row hk => ?_) (fun k j ct dd row hk hct hdd => ?_)
            · rcases hx with hx | ⟨t, ht, hx⟩ | ⟨l, j, hl⟩
              · have := W.x0lt _ (h.x0 ▸ hx)
                have := h.base.size
                omega
              · have hat : E.alive t := by
                  obtain ⟨m, hm⟩ := ht
                  refine ⟨m, ?_⟩
                  rw [← hm]
                  show _ = (upd _ _ _ _).2
                  rw [upd_other (by simp)]
                have := (h.bxlo t hat).2
                have hx' : E.w.heap.size = E.β t := hx
                omega
              · simp only [Env.called] at hl
                split at hl
                · cases hl
                · split at hl
                  · cases hl
                  · have := (h.owlo _ _ _ hl).2
                    omega
            · rw [bytesD_length] at hk
              rw [a4] at hj ⊢
              have hj0 : j = 0 := by simpa using hj
              subst hj0
              show (E.w.drew.alloc _).cell? _ = _
              rw [cell_of_row _ _ _ C e _ hnew]
              simp only [List.length_cons, List.length_nil, Nat.zero_add, Nat.mul_one, Nat.add_zero]
              exact hcell k hk
            · simp only [bytesD, List.getElem?_map] at hk
              rw [a4]
              cases hbb : a.data.toList[k]? with
              | none => rw [hbb] at hk; cases hk
              | some b => rw [hbb] at hk; obtain rfl := Option.some.inj hk; rfl
            · simp only [bytesD, List.getElem?_map] at hk
              rw [a4] at hct
              cases hbb : a.data.toList[k]? with
              | none => rw [hbb] at hk; cases hk
              | some b =>
                rw [hbb] at hk
                obtain rfl := Option.some.inj hk
                cases j with
                | succ j => cases hct
                | zero =>
                  obtain rfl := Option.some.inj hct
                  obtain rfl := Option.some.inj hdd
                  have : a.data.toList.getD k 0 = b := by rw [List.getD_eq_getElem?_getD, hbb]; rfl
                  simp only [this]
                  refine .int .u8 _ ?_
                  have hlt : b.toNat < 256 := UInt8.toNat_lt _
                  exact ⟨by rw [show IntKind.u8.min = 0 by decide]; exact Int.natCast_nonneg _, by rw [show IntKind.u8.max = 255 by decide]; omega⟩
        · exact h3.elim
      · exact h3.elim
    · exact hw.elim
  · exact hw.elim
theorem append_src (hT : TabOk P T) {o : Oper} {t tx e : TypeId} {te : Ty} {x y : Operand} (ho : o.op = .call { callee := .builtin .append, args := #[x, y], argTypes := #[t, tx] }) (hu : P.underlying t = some (.slice e)) (hdp : dpT T e = false) (hte : TyOk P T e te) (hTe : T e = some te)
    {E : Env} {Q : St → Prop} {K : Act → World → Prop} {Qx : Exit → Act → World → Prop} (h : Rel T W N E) {more : List (List D)} {news : List Value} (hsrc : Src P te.cts.length tx (E.a.eval y) more.length news E.w) (hnews : RowsR T E te.cts more news)
    (hw : (rdv x fun sv => match sv with
    | .val false [.al q j n] => look q j n fun ag cs own e' rows => if own = true ∧ e' = e then
        .set 0 q (.val ag (cs.set j .dead)) (.chk (rows.length + more.length ≤ maxLen ∧ (rows.length + more.length) * te.bytes ≤ 140737488355328) (ownSet N o e (rows ++ more))) else .fail
    | _ => .fail : Pg).wp Q E.σ) (hK : ∀ E', Rel T W N E' → Q E'.σ → K E'.a E'.w) : o.wp P E.a E.w K Qx := by
  obtain ⟨sv, h1, _f1, h3⟩ := rdv_sound h hw (.slot N)
  split at h3
  · rename_i q j n
    obtain ⟨ag, cs, own', e', rows, g1, g2, g3, g4, g5⟩ := look_sound h h3 h1.cell1
    split at g5
    · rename_i hoe
      obtain ⟨rfl, rfl⟩ := hoe
      obtain ⟨r1, s1, m1⟩ := h.take (j0 := 0) g1 g2
      have hgh := m1 _ g4
      obtain ⟨hb, hw'⟩ := g5
      obtain ⟨⟨ty, xs, a1, a2, a3, a4⟩, abk⟩ := OwnF.own hgh hdp
      rw [hTe] at a1
      obtain rfl := Option.some.inj a1
      obtain ⟨z, hz1, hz2, inf, i1, i3⟩ := zeroCells_eq hte
      obtain ⟨inf', i1', i2, i4, _⟩ := hte.info
      rw [i1] at i1'
      obtain rfl := Option.some.inj i1'
      obtain ⟨v', w', f1, f2, f3, f4⟩ := run_append2 (P := P) E.w 0 t tx o.type e' inf z te.cts.length hu i1 i3 i2 (by
        have := congrArg List.length hz2; simpa using this) (E.a.eval x) rows.length xs a2 (E.a.eval y) more.length news hsrc hb.1 (by rw [i4]; exact hb.2) (Nat.zero_le _)
      refine Same.run (E := E) (E' := E.turn q ag cs j .dead (takeBk E N q j 0)) ⟨rfl, rfl, rfl, s1⟩ (sound_grown1 (e := e') (rows := rows ++ more) r1 hdp (v := v') (w' := w') ?_ f3 (fun x hx => ⟨0, (abk x).2 hx⟩) (fun x hx => ⟨(f4 x hx).1.imp (fun h => ⟨0, (abk x).2 h⟩) id, (f4 x hx).2⟩) (fun E2 hE2 s2 => ?_) hw' hK)
      · show (execOp E.a.eval o).run P E.w = _
        simp [execOp, ho, resolve, invoke, builtin, f1]
      · have hlx : xs.length = rows.length * te.cts.length := a2.1
        have hn2 : RowsR T (E.turn q ag cs j .dead (takeBk E N q j 0)) te.cts more news := hnews.same s1
        refine ⟨te, xs ++ news, hTe, by rw [List.length_append]; exact f2, fun k row hk => ?_, fun k j' ct d row hk hct hd => ?_⟩
        · rw [List.getElem?_append] at hk
          split at hk
          · exact a3 k row hk
          · exact hn2.1 _ row hk
        · have hj' := (List.getElem?_eq_some_iff.1 hct).1
          rw [List.getElem?_append] at hk
          have fin : ∀ {u}, RdR T (E.turn q ag cs j .dead (takeBk E N q j 0)).w (E.turn q ag cs j .dead (takeBk E N q j 0)).X ct u d → RdR T w' E2.X ct u d := fun hr => by
            have := hr.move s2.keep s2.less
            rwa [hE2] at this
          split at hk
          · rename_i hlt
            obtain ⟨u, hu', hr⟩ := a4 k j' ct d row hk hct hd
            refine ⟨u, ?_, fin hr⟩
            rw [List.getElem?_append_left (by
              have : (k + 1) * te.cts.length ≤ rows.length * te.cts.length := Nat.mul_le_mul_right _ hlt
              rw [Nat.succ_mul] at this
              omega)]
            exact hu'
          · rename_i hge
            obtain ⟨u, hu', hr⟩ := hn2.2 (k - rows.length) j' ct d row hk hct hd
            refine ⟨u, ?_, fin hr⟩
            have hkk : (k - rows.length) * te.cts.length + rows.length * te.cts.length = k * te.cts.length := by rw [← Nat.add_mul]; congr 1; omega
            rw [List.getElem?_append_right (by omega), hlx, show k * te.cts.length + j' - rows.length * te.cts.length = (k - rows.length) * te.cts.length + j' by omega]
            exact hu'
    · exact g5.elim
  · exact h3.elim
def stepAppendS (T : Tab) (N : Nat) (o : Oper) (t tx : TypeId) (x y : Operand) : Pg :=
  match elemT T t, T tx with
  | some (e, te), some ty => match te.agg, te.cts, ty.agg, ty.cts with
    | false, [.i .u8], false, [.s] => rdv y fun sy => match sy with
      | .val false [.s a] => rdv x fun sv => match sv with
        | .val false [.al q j n] => look q j n fun ag cs own e' rows => if own = true ∧ e' = e then
            .set 0 q (.val ag (cs.set j .dead)) (.chk (rows.length + (bytesD a).length ≤ maxLen ∧ (rows.length + (bytesD a).length) * te.bytes ≤ 140737488355328) (ownSet N o e (rows ++ bytesD a))) else .fail
        | _ => .fail
      | _ => .fail
    | _, _, _, _ => .fail
  | _, _ => .fail
theorem appendS_ok (hT : TabOk P T) {o : Oper} {t tx : TypeId} {x y : Operand} (ho : o.op = .call { callee := .builtin .append, args := #[x, y], argTypes := #[t, tx] }) : OpOk P T W N o (stepAppendS T N o t tx x y) := by
  intro E Q K Qx h hw hK
  unfold stepAppendS at hw
  split at hw
  · rename_i e te ty ht htx
    obtain ⟨hu, hte, hTe⟩ := elemT_spec hT ht
    split at hw
    · rename_i a1 a2 a3 a4
      obtain ⟨c, hc, hus⟩ := (hT tx ty htx).one a3
      rw [a4] at hc
      obtain rfl : CT.s = c := by simpa using hc
      obtain ⟨sy, h1, _f1, h3⟩ := rdv_sound h hw (.slot N)
      split at h3
      · rename_i a
        obtain ⟨ea, la⟩ := h1.str
        have hsrc : Src P te.cts.length tx (E.a.eval y) (bytesD a).length (byteCells a) E.w := by
          rw [a2, bytesD_length, ea]
          exact Src.ofString E.w hus a
        have hnews : RowsR T E te.cts (bytesD a) (byteCells a) := by
          rw [a2]
          refine ⟨fun k row hk => ?_, fun k j ct d row hk hct hd => ?_⟩
          · simp only [bytesD, List.getElem?_map] at hk
            cases hb : a.data.toList[k]? with
            | none => rw [hb] at hk; cases hk
            | some b => rw [hb] at hk; obtain rfl := Option.some.inj hk; rfl
          · simp only [bytesD, List.getElem?_map] at hk
            cases hb : a.data.toList[k]? with
            | none => rw [hb] at hk; cases hk
            | some b =>
              rw [hb] at hk
              obtain rfl := Option.some.inj hk
              cases j with
              | succ j => cases hct
              | zero =>
                obtain rfl := Option.some.inj hct
                obtain rfl := Option.some.inj hd
                refine ⟨.int .u8 b.toNat, by simp [byteCells, hb], .int .u8 _ ?_⟩
                have hlt : b.toNat < 256 := UInt8.toNat_lt _
                exact ⟨by rw [show IntKind.u8.min = 0 by decide]; exact Int.natCast_nonneg _, by rw [show IntKind.u8.max = 255 by decide]; omega⟩
        exact append_src hT ho hu (by
          have hf : flatT T e = true := by
            unfold flatT
            rw [hTe]
            show te.cts.all _ = true
            rw [a2]
            rfl
          unfold dpT
          rw [hf]
          simp) hte hTe h hsrc hnews h3 hK
      · exact h3.elim
    · exact hw.elim
  · exact hw.elim
end
end Go.Proofs.YtaecbmjmcpdgdaaGreat.Ab
namespace Go.Proofs.YtaecbmjmcpdgdaaGreat.Ab
noncomputable section
open Go.RowKit
set_option linter.unusedVariables false
set_option linter.unusedSimpArgs false
variable {P : Program} {T : Tab} {W : Base} {N : Nat}
def stepNilCheck (N : Nat) (o : Oper) (x : Operand) : Pg :=
  rdv x fun sv => match sv with
    | .ptr t g p => .get (.gen t) fun v => if v.1 = g then dstSet N o (.ptr t g p) else .fail
    | _ => .fail
theorem nilCheck_ok {o : Oper} {x : Operand} (ho : o.op = .nilCheck x) : OpOk P T W N o (stepNilCheck N o x) := by
  intro E Q K Qx h hw hK
  obtain ⟨sv, h1, _f1, h3⟩ := rdv_sound h hw (.slot N)
  split at h3
  · rename_i t g p
    simp only [Pg.wp] at h3
    split at h3
    · rename_i hg
      have hx := h1.2 hg
      exact sound_value h (v := E.a.eval x) (sv := .ptr t g p) (by simp [execOp, ho, hx]) h1 h3 hK
    · exact h3.elim
  · exact h3.elim
def stepMax (N : Nat) (o : Oper) (x y : Operand) : Pg :=
  rdv x fun sx => rdv y fun sy => match sx, sy with
    | .val false [.i k a], .val false [.i _ b] => .chk (inK k b) (dstSet N o (.val false [.i k (if b > a then b else a)]))
    | _, _ => .fail
theorem max_ok {o : Oper} {x y : Operand} {ts : Array TypeId} (ho : o.op = .call { callee := .builtin .max, args := #[x, y], argTypes := ts }) : OpOk P T W N o (stepMax N o x y) := by
  intro E Q K Qx h hw hK
  obtain ⟨sx, h1, _f1, h3⟩ := rdv_sound h hw (.slot N)
  obtain ⟨sy, h4, _f4, h6⟩ := rdv_sound h h3 (.slot N)
  split at h6
  · rename_i k a k' b
    obtain ⟨ea, ia⟩ := h1.int
    obtain ⟨eb, ib⟩ := h4.int
    obtain ⟨hb, hw'⟩ := h6
    refine sound_value h (v := .int k (if b > a then b else a)) ?_ (mkInt E _ _ _ (by split <;> assumption)) hw' hK
    simp [execOp, ho, resolve, invoke, builtin, Builtin.max_, Builtin.max2, ea, eb]
  · exact h6.elim
def stepMin (N : Nat) (o : Oper) (x y : Operand) : Pg :=
  rdv x fun sx => rdv y fun sy => match sx, sy with
    | .val false [.i k a], .val false [.i _ b] => .chk (inK k b) (dstSet N o (.val false [.i k (if b < a then b else a)]))
    | _, _ => .fail
theorem min_ok {o : Oper} {x y : Operand} {ts : Array TypeId} (ho : o.op = .call { callee := .builtin .min, args := #[x, y], argTypes := ts }) : OpOk P T W N o (stepMin N o x y) := by
  intro E Q K Qx h hw hK
  obtain ⟨sx, h1, _f1, h3⟩ := rdv_sound h hw (.slot N)
  obtain ⟨sy, h4, _f4, h6⟩ := rdv_sound h h3 (.slot N)
  split at h6
  · rename_i k a k' b
    obtain ⟨ea, ia⟩ := h1.int
    obtain ⟨eb, ib⟩ := h4.int
    obtain ⟨hb, hw'⟩ := h6
    refine sound_value h (v := .int k (if b < a then b else a)) ?_ (mkInt E _ _ _ (by split <;> assumption)) hw' hK
    simp [execOp, ho, resolve, invoke, builtin, Builtin.min_, Builtin.min2, ea, eb]
  · exact h6.elim
theorem andEx : ∃ f : IntKind → Int → Int → Int, ∀ k a b, f k a b = k.wrap ((BitVec.ofInt k.bits a) &&& (BitVec.ofInt k.bits b)).toNat := ⟨fun k a b => k.wrap ((BitVec.ofInt k.bits a) &&& (BitVec.ofInt k.bits b)).toNat, fun _ _ _ => rfl⟩
noncomputable def andI : IntKind → Int → Int → Int := andEx.choose
theorem andI_eq (k : IntKind) (a b : Int) : andI k a b = k.wrap ((BitVec.ofInt k.bits a) &&& (BitVec.ofInt k.bits b)).toNat := andEx.choose_spec k a b
theorem orEx : ∃ f : IntKind → Int → Int → Int, ∀ k a b, f k a b = k.wrap ((BitVec.ofInt k.bits a) ||| (BitVec.ofInt k.bits b)).toNat := ⟨fun k a b => k.wrap ((BitVec.ofInt k.bits a) ||| (BitVec.ofInt k.bits b)).toNat, fun _ _ _ => rfl⟩
noncomputable def orI : IntKind → Int → Int → Int := orEx.choose
theorem orI_eq (k : IntKind) (a b : Int) : orI k a b = k.wrap ((BitVec.ofInt k.bits a) ||| (BitVec.ofInt k.bits b)).toNat := orEx.choose_spec k a b
theorem xorEx : ∃ f : IntKind → Int → Int → Int, ∀ k a b, f k a b = k.wrap ((BitVec.ofInt k.bits a) ^^^ (BitVec.ofInt k.bits b)).toNat := ⟨fun k a b => k.wrap ((BitVec.ofInt k.bits a) ^^^ (BitVec.ofInt k.bits b)).toNat, fun _ _ _ => rfl⟩
noncomputable def xorI : IntKind → Int → Int → Int := xorEx.choose
theorem xorI_eq (k : IntKind) (a b : Int) : xorI k a b = k.wrap ((BitVec.ofInt k.bits a) ^^^ (BitVec.ofInt k.bits b)).toNat := xorEx.choose_spec k a b
theorem shrEx : ∃ f : IntKind → Int → Int → Int, ∀ k a b, f k a b = a.fdiv (2 ^ min b.toNat k.bits) := ⟨fun k a b => a.fdiv (2 ^ min b.toNat k.bits), fun _ _ _ => rfl⟩
noncomputable def shrI : IntKind → Int → Int → Int := shrEx.choose
theorem shrI_eq (k : IntKind) (a b : Int) : shrI k a b = a.fdiv (2 ^ min b.toNat k.bits) := shrEx.choose_spec k a b
def bitI (op : BinOp) (k : IntKind) (a b : Int) : Option Int :=
  match op with
  | .and => some (andI k a b)
  | .or => some (orI k a b)
  | .xor => some (xorI k a b)
  | _ => none
def stepBits (N : Nat) (o : Oper) (op : BinOp) (x y : Operand) : Pg :=
  rdv x fun sx => rdv y fun sy => match sx, sy with
    | .val false [.i k a], .val false [.i k' b] => match op with
      | .shr => .chk (0 ≤ b ∧ inK k (shrI k a b)) (dstSet N o (.val false [.i k (shrI k a b)]))
      | op => if k = k' then match bitI op k a b with
          | some r => dstSet N o (.val false [.i k r])
          | none => .fail
        else .fail
    | _, _ => .fail
theorem bits_ok {o : Oper} {op : BinOp} {t t' : TypeId} {x y : Operand} (ho : o.op = .binOp op t x y t') : OpOk P T W N o (stepBits N o op x y) := by
  intro E Q K Qx h hw hK
  obtain ⟨sx, h1, _f1, h3⟩ := rdv_sound h hw (.slot N)
  obtain ⟨sy, h4, _f4, h6⟩ := rdv_sound h h3 (.slot N)
  split at h6
  · rename_i k a k' b
    obtain ⟨ea, ia⟩ := h1.int
    obtain ⟨eb, ib⟩ := h4.int
    have hg : ∀ op, (eqGuard op t x y (.int k a) (.int k' b)).run P E.w = .ok () E.w := by intro op; cases op <;> simp [eqGuard]
    split at h6
    · obtain ⟨⟨b0, hin⟩, hw'⟩ := h6
      refine sound_value h (v := .int k (shrI k a b)) ?_ (mkInt E _ _ _ hin) hw' hK
      have hb : ¬ b < 0 := by omega
      simp [execOp, ho, ea, eb, binOp, Op.shift, hg, hb, shrI_eq]
    · split at h6
      · rename_i hk
        subst hk
        split at h6
        · rename_i r hr
          refine sound_value h (v := .int k r) ?_ (mkInt E _ _ _ ?_) h6 hK
          · cases op <;> simp only [bitI, Option.some.injEq, reduceCtorEq] at hr <;> (subst hr; simp [execOp, ho, ea, eb, binOp, Op.intBits, hg, andI_eq, orI_eq, xorI_eq])
          · cases op <;> simp only [bitI, Option.some.injEq, reduceCtorEq] at hr <;> (subst hr; simp only [andI_eq, orI_eq, xorI_eq]; exact wrap_inK _ _)
        · exact h6.elim
      · exact h6.elim
  · exact h6.elim
theorem RdR.cut {w : World} {X : Nat → Prop} {e : TypeId} {te : Ty} {v : Value} {rows : List (List D)} (h : RdR T w X (.l e) v (.l rows)) (hte : T e = some te) {l k : Nat} (h1 : l ≤ k) (h2 : k ≤ rows.length) :
    ∃ A n c, v = .slice A n c ∧ n = rows.length ∧ n ≤ c ∧ RdR T w X (.l e) (.slice (if c = l then A else A.map (·.add (l * te.cts.length))) (k - l) (c - l)) (.l ((rows.take k).drop l)) := by
  cases h with
  | nil _ A c hc =>
    obtain rfl : l = 0 := by simp at h2; omega
    obtain rfl : k = 0 := by simp at h2; omega
    exact ⟨A, 0, c, rfl, rfl, Nat.zero_le _, by simpa using RdR.nil e _ c hc⟩
  | sl _ ty b o c _ vs g1 g2 g3 g4 g5 g6 g7 g8 =>
    rw [hte] at g1
    obtain rfl := Option.some.inj g1
    refine ⟨_, _, c, rfl, rfl, g2, ?_⟩
    by_cases hz : k - l = 0
    · have : (rows.take k).drop l = [] := by apply List.drop_eq_nil_of_le; simp; omega
      rw [this, hz]
      exact .nil e _ _ (by omega)
    · rw [if_neg (by omega)]
      have hl : ((rows.take k).drop l).length = k - l := by simp; omega
      have hrow : ∀ (i : Nat) row, ((rows.take k).drop l)[i]? = some row → rows[l + i]? = some row := fun i row hi => by
        rw [List.getElem?_drop, List.getElem?_take] at hi
        split at hi
        · exact hi
        · cases hi
      have hadd : (⟨b, o, none⟩ : Addr).add (l * te.cts.length) = ⟨b, o + l * te.cts.length, none⟩ := by rw [Addr.add_mid]
      simp only [Option.map_some, hadd]
      rw [← hl]
      refine .sl e te b (o + l * te.cts.length) (c - l) _ (fun i j => vs (l + i) j) hte (by omega) (by omega) g4 g5 (fun i j hi hj => ?_) (fun i row hi => g7 _ row (hrow i row hi)) (fun i j ct d row hi hct hd => g8 _ j ct d row (hrow i row hi) hct hd)
      have := g6 (l + i) j (by omega) hj
      rw [show o + l * te.cts.length + i * te.cts.length + j = o + (l + i) * te.cts.length + j by rw [Nat.add_mul]; omega]
      exact this
def bound (y : Option Operand) (d : Int) (k : Int → Pg) : Pg :=
  match y with
  | none => k d
  | some y => rdv y fun sv => match sv with
    | .val false [.i _ n] => k n
    | _ => .fail
theorem bound_sound {E : Env} (h : Rel T W N E) {y : Option Operand} {d : Int} {k : Int → Pg} {Q : St → Prop} (hw : (bound y d k).wp Q E.σ) :
    ∃ n, (k n).wp Q E.σ ∧ ((y = none ∧ n = d) ∨ ∃ y' kk, y = some y' ∧ E.a.eval y' = .int kk n) := by
  cases y with
  | none => exact ⟨d, hw, .inl ⟨rfl, rfl⟩⟩
  | some y =>
    have hw' : (rdv y fun sv => match sv with
      | .val false [.i _ n] => k n
      | _ => .fail : Pg).wp Q E.σ := hw
    obtain ⟨sv, h1, _f1, h3⟩ := rdv_sound h hw' (.slot N)
    split at h3
    · rename_i kk n
      exact ⟨n, h3, .inr ⟨y, kk, rfl, h1.int.1⟩⟩
    · exact h3.elim
def stepSlice (T : Tab) (N : Nat) (o : Oper) (t : TypeId) (x : Operand) (lo hi : Option Operand) : Pg :=
  match T t with
  | some ty => match ty.agg, ty.cts with
    | false, [.s] => rdv x fun sv => match sv with
      | .val false [.s a] => bound lo 0 fun l => bound hi a.size fun h => .chk (0 ≤ l ∧ l ≤ h ∧ h ≤ a.size) (dstSet N o (.val false [.s (a.extract l.toNat h.toNat)]))
      | _ => .fail
    | false, [.l e] => match T e with
      | some te => rdv x fun sv => match sv with
        | .val false cs => pubs cs fun cs' => match cs' with
          | [.sl false e' rows] => if e' = e then bound lo 0 fun l => bound hi rows.length fun h => .chk (0 ≤ l ∧ l ≤ h ∧ h ≤ rows.length) (dstSet N o (.val false [.sl false e ((rows.take h.toNat).drop l.toNat)])) else .fail
          | _ => .fail
        | _ => .fail
      | none => .fail
    | _, _ => .fail
  | none => .fail
theorem slice_ok (hT : TabOk P T) {o : Oper} {t : TypeId} {x : Operand} {lo hi : Option Operand} (ho : o.op = .slice t x lo hi none) : OpOk P T W N o (stepSlice T N o t x lo hi) := by
  intro E Q K Qx h hw hK
  unfold stepSlice at hw
  split at hw
  · rename_i ty hty
    split at hw
    · rename_i hag hcts
      obtain ⟨c, hc, hu⟩ := (hT t ty hty).one hag
      rw [hcts] at hc
      obtain rfl : CT.s = c := by simpa using hc
      obtain ⟨sv, h1, _f1, h3⟩ := rdv_sound h hw (.slot N)
      split at h3
      · rename_i a
        obtain ⟨ea, la⟩ := h1.str
        obtain ⟨l, h4, e4⟩ := bound_sound h h3
        obtain ⟨k, h5, e5⟩ := bound_sound h h4
        obtain ⟨⟨l0, l1, l2⟩, hw'⟩ := h5
        refine sound_value h (v := .string (a.extract l.toNat k.toNat)) ?_ (mkStr E _ _ (by rw [ByteArray.size_extract]; omega)) hw' hK
        have ek : (k.toNat : Int) = k := Int.toNat_of_nonneg (by omega)
        have hk0 : 0 ≤ k := by omega
        rcases e4 with ⟨rfl, rfl⟩ | ⟨y, kk, rfl, ey⟩ <;> rcases e5 with ⟨rfl, rfl⟩ | ⟨z, kz, rfl, ez⟩ <;>
          simp [execOp, ho, ea, Instr.sliceAt, Instr.slice, Instr.sliceBounds, Instr.sliceBound, asIntOf, run_underlying hu, *]
      · exact h3.elim
    · rename_i e hag hcts
      obtain ⟨c, hc, hu⟩ := (hT t ty hty).one hag
      rw [hcts] at hc
      obtain rfl : CT.l e = c := by simpa using hc
      split at hw
      · rename_i te hte
        obtain ⟨sv, h1, f1, h3⟩ := rdv_sound h hw (.slot N)
        split at h3
        · rename_i cs
          obtain ⟨E1, cs', us, r1, s1, c1, t1, g1, e1, el, _, u1, w1⟩ := pubs_val h h1 (cellsFree_of_free f1) h3
          split at w1
          · rename_i e' rows
            split at w1
            · rename_i he
              subst he
              obtain ⟨l, h4, e4⟩ := bound_sound r1 w1
              obtain ⟨k, h5, e5⟩ := bound_sound r1 h4
              obtain ⟨⟨l0, l1, l2⟩, hw'⟩ := h5
              have hus := u1 rfl
              subst hus
              have hr : RdR T E1.w E1.X (.l e') (E.a.eval x) (.l rows) := c1.2 0 _ _ rfl rfl
              obtain ⟨A, n, cap, v1, v2, v3, v4⟩ := hr.cut hte (l := l.toNat) (k := k.toNat) (by omega) (by omega)
              refine s1.run (sound_value r1 (v := _) (sv := .val false [.sl false e' ((rows.take k.toNat).drop l.toNat)]) ?_ ⟨_, rfl, v4⟩ hw' hK)
              have ek : (k.toNat : Int) = k := Int.toNat_of_nonneg (by omega)
              obtain ⟨inf, i1, i2, _⟩ := (hT e' te hte).info
              have hx : E1.a.eval x = .slice A n cap := by rw [s1.a]; exact v1
              have hkc : k ≤ cap := by omega
              have hkn : k ≤ n := by omega
              have hln : l ≤ n := by omega
              have hk0 : 0 ≤ k := by omega
              rcases e4 with ⟨rfl, rfl⟩ | ⟨y, kk, rfl, ey⟩ <;> rcases e5 with ⟨rfl, rfl⟩ | ⟨z, kz, rfl, ez⟩ <;>
                simp [execOp, ho, hx, Instr.sliceAt, Instr.slice, Instr.sliceBounds, Instr.sliceBound, asIntOf, run_underlying hu, sizeOf, typeInfo, i1, i2, *]
            · exact w1.elim
          · exact w1.elim
        · exact h3.elim
      · exact hw.elim
    · exact hw.elim
  · exact hw.elim
theorem ownsRow_cut {w : World} {B : Nat} {e : TypeId} {n m k : Nat} {v : Value} {xs : List Value} (h : w.ownsRow B e n v m xs) (hk : k ≤ m) : ∃ A c, v = .slice A m c ∧ w.ownsRow B e n (.slice A k c) k (xs.take (k * n)) ∧ (Value.slice A k c).ownBlock = v.ownBlock := by
  have hl : (xs.take (k * n)).length = k * n := by
    rw [List.length_take, h.1]
    exact Nat.min_eq_left (Nat.mul_le_mul_right _ hk)
  rcases h.2 with ⟨rfl, rfl⟩ | ⟨g, cap, cur, rfl, e2, e3, e4, e5, e6, e7⟩
  · obtain rfl : k = 0 := by omega
    exact ⟨none, 0, rfl, ⟨hl, .inl ⟨rfl, rfl⟩⟩, rfl⟩
  · refine ⟨_, cap, rfl, ⟨hl, .inr ⟨g, cap, cur, rfl, e2, e3, by omega, e5, e6, ?_⟩⟩, rfl⟩
    rw [← e7, List.take_take, Nat.min_eq_left (Nat.mul_le_mul_right _ hk)]
theorem OwnF.cut {w : World} {X F : Nat → Prop} {e : TypeId} {v : Value} {rows : List (List D)} (h : OwnF T w X F e v rows) {k : Nat} (hk : k ≤ rows.length) :
    ∃ A c, v = .slice A rows.length c ∧ ∃ F' : Nat → Prop, (∀ b, F' b → F b) ∧ OwnF T w X F' e (.slice A k c) (rows.take k) := by
  have hlt : (rows.take k).length = k := by rw [List.length_take]; exact Nat.min_eq_left hk
  have hrow : ∀ (i : Nat) row, (rows.take k)[i]? = some row → i < k ∧ rows[i]? = some row := fun i row hi => by
    rw [List.getElem?_take] at hi
    split at hi
    · rename_i h; exact ⟨h, hi⟩
    · cases hi
  cases hd : dpT T e with
  | false =>
    obtain ⟨⟨ty, xs, h1, h2, h3, h4⟩, h5⟩ := h.own hd
    obtain ⟨A, c, hv, hr, hb⟩ := ownsRow_cut h2 hk
    refine ⟨A, c, hv, F, fun b hb => hb, .of_own hd ⟨ty, xs.take (k * ty.cts.length), h1, by rw [hlt]; exact hr, fun i row hi => h3 i row (hrow i row hi).2, fun i j ct d row a b c' => ?_⟩ fun b => by rw [hb]; exact h5 b⟩
    obtain ⟨q1, q2⟩ := hrow i row a
    obtain ⟨u, hu, hr'⟩ := h4 i j ct d row q2 b c'
    refine ⟨u, ?_, hr'⟩
    have hj := (List.getElem?_eq_some_iff.1 b).1
    have : (i + 1) * ty.cts.length ≤ k * ty.cts.length := Nat.mul_le_mul_right _ q1
    rw [Nat.succ_mul] at this
    rw [List.getElem?_take, if_pos (by omega)]
    exact hu
  | true =>
    obtain ⟨ty, xs, G, h1, h2, h3, h4, h5, h6, h7⟩ := (h.deep hd).inv
    obtain ⟨A, c, hv, hr, hb⟩ := ownsRow_cut h2 hk
    refine ⟨A, c, hv, fun b => (Value.slice A k c).ownBlock = some b ∨ ∃ i, i < k * ty.cts.length ∧ G i b, fun b hF => ?_, .of_deep hd (.sl _ e ty _ (rows.take k) (xs.take (k * ty.cts.length)) (fun i b => i < k * ty.cts.length ∧ G i b) h1 (by rw [hlt]; exact hr) (fun i row hi => h3 i row (hrow i row hi).2) (fun b => Iff.rfl) (fun i b hg => ⟨by rw [hb]; exact (h5 i b hg.2).1, by rw [hlt]; exact hg.1⟩) (fun i i' b hg hg' => h6 i i' b hg.2 hg'.2) fun i j ct d row a b c' => ?_)⟩
    · rw [h4]
      rcases hF with hF | ⟨i, _, hF⟩
      · exact .inl (by rw [← hb]; exact hF)
      · exact .inr ⟨i, hF⟩
    · obtain ⟨q1, q2⟩ := hrow i row a
      have hj := (List.getElem?_eq_some_iff.1 b).1
      have : (i + 1) * ty.cts.length ≤ k * ty.cts.length := Nat.mul_le_mul_right _ q1
      rw [Nat.succ_mul] at this
      have hin : i * ty.cts.length + j < k * ty.cts.length := by omega
      have e1 : (fun b => i * ty.cts.length + j < k * ty.cts.length ∧ G (i * ty.cts.length + j) b) = G (i * ty.cts.length + j) := by
        funext b
        exact propext ⟨fun h => h.2, fun h => ⟨hin, h⟩⟩
      have e2 : (xs.take (k * ty.cts.length)).getD (i * ty.cts.length + j) undef = xs.getD (i * ty.cts.length + j) undef := by
        rw [List.getD_eq_getElem?_getD, List.getElem?_take, if_pos hin, ← List.getD_eq_getElem?_getD]
      rw [e1, e2]
      exact h7 i j ct d row q2 b c'
def stepCut (T : Tab) (N : Nat) (o : Oper) (t : TypeId) (x : Operand) (hi : Operand) : Pg :=
  match T t with
  | some ty => match ty.agg, ty.cts with
    | false, [.l e] => rdv x fun sv => match sv with
      | .val false [.al q j n] => look q j n fun ag cs own e' rows => if own = true ∧ e' = e then
          .set 0 q (.val ag (cs.set j .dead)) (bound (some hi) 0 fun h => .chk (0 ≤ h ∧ h ≤ rows.length) (ownSet N o e (rows.take h.toNat))) else .fail
      | _ => .fail
    | _, _ => .fail
  | none => .fail
theorem cut_ok (hT : TabOk P T) {o : Oper} {t : TypeId} {x hi : Operand} (ho : o.op = .slice t x none (some hi) none) : OpOk P T W N o (stepCut T N o t x hi) := by
  intro E Q K Qx h hw hK
  unfold stepCut at hw
  split at hw
  case h_2 => exact hw.elim
  rename_i ty hty
  split at hw
  case h_2 => exact hw.elim
  rename_i e hag hcts
  obtain ⟨c, hc, hu⟩ := (hT t ty hty).one hag
  rw [hcts] at hc
  obtain rfl : CT.l e = c := by simpa using hc
  obtain ⟨sv, h1, _f1, h3⟩ := rdv_sound h hw (.slot N)
  split at h3
  case h_2 => exact h3.elim
  rename_i q j n
  obtain ⟨ag, cs, own, e', rows, g1, g2, g3, g4, g5⟩ := look_sound h h3 h1.cell1
  split at g5
  case isFalse => exact g5.elim
  rename_i hoe
  obtain ⟨rfl, rfl⟩ := hoe
  obtain ⟨r1, s1, m1⟩ := h.take (j0 := 0) g1 g2
  have gx := m1 _ g4
  have g5' : (bound (some hi) 0 fun h => .chk (0 ≤ h ∧ h ≤ rows.length) (ownSet N o e' (rows.take h.toNat)) : Pg).wp Q (E.turn q ag cs j .dead (takeBk E N q j 0)).σ := g5
  obtain ⟨k, w1, e1⟩ := bound_sound r1 g5'
  obtain ⟨⟨k0, k1⟩, hw'⟩ := w1
  obtain ⟨A, cap, hv, F', hF, hO⟩ := OwnF.cut (k := k.toNat) (gx : OwnF T _ _ _ e' _ rows) (by omega)
  obtain ⟨y, kk, hy, ey⟩ : ∃ y' kk, some hi = some y' ∧ E.a.eval y' = .int kk k := by
    rcases e1 with ⟨h0, _⟩ | ⟨y', kk, h1, h2⟩
    · cases h0
    · exact ⟨y', kk, h1, h2⟩
  obtain rfl := Option.some.inj hy
  obtain ⟨A', cap', hv', hle, hcm⟩ := OwnF.len (gx : OwnF T _ _ _ e' _ rows)
  have hx : E.a.eval x = .slice A rows.length cap := hv
  rw [hx] at hv'
  simp only [Value.slice.injEq] at hv'
  obtain ⟨_, _, rfl⟩ := hv'
  cases hte : T e' with
  | none =>
    have := (hT t ty hty).elems e' (by rw [hcts]; simp)
    rw [hte] at this; cases this
  | some te =>
  obtain ⟨inf, i1, i2, _⟩ := (hT e' te hte).info
  refine Same.run (E := E) (E' := E.turn q ag cs j .dead (takeBk E N q j 0)) ⟨rfl, rfl, rfl, s1⟩ (sound_grown (e := e') (rows := rows.take k.toNat) (row := none) (F := F') r1 (v := .slice A k.toNat cap) (w' := E.w) ?_ ⟨rfl, rfl, rfl, Nat.le_refl _, fun _ _ _ => rfl⟩ (fun x hx => by cases hx) (fun b hb => ⟨.inl ⟨0, hF b hb⟩, (r1.owlo _ _ _ (hF b hb)).2⟩) (fun E2 hE2 s2 => hO.move ⟨Nat.le_refl _, fun _ _ _ => rfl⟩ (fun b hb hx => s2.less b hb hx) rfl (fun _ _ => rfl)) hw' hK)
  show (execOp E.a.eval o).run P E.w = _
  have hkc : k ≤ cap := by omega
  have hz : ∀ (A : Option Addr), A.map (fun x => x.add 0) = A := by
    intro A
    cases A with
    | none => rfl
    | some a => rw [Option.map_some, Addr.add_zero']
  simp [execOp, ho, hx, ey, Instr.sliceAt, Instr.slice, Instr.sliceBounds, Instr.sliceBound, asIntOf, run_underlying hu, sizeOf, typeInfo, i1, i2, *]
def stepSliceAny (T : Tab) (N : Nat) (o : Oper) (t : TypeId) (x : Operand) (lo hi : Option Operand) : Pg :=
  match lo, hi with
  | none, some h => rdv x fun sv => match sv with
    | .val false [.al (.cell b j) i n] => look (.cell b j) i n fun _ _ own _ _ => match own with
      | true => stepCut T N o t x h
      | false => stepSlice T N o t x none (some h)
    | _ => stepSlice T N o t x none (some h)
  | lo, hi => stepSlice T N o t x lo hi
theorem sliceAny_ok (hT : TabOk P T) {o : Oper} {t : TypeId} {x : Operand} {lo hi : Option Operand} (ho : o.op = .slice t x lo hi none) : OpOk P T W N o (stepSliceAny T N o t x lo hi) := by
  unfold stepSliceAny
  split
  · intro E Q K Qx h hw hK
    obtain ⟨sv, h1, _f1, h3⟩ := rdv_sound h hw (.slot N)
    split at h3
    · obtain ⟨ag, cs, own, e', rows, g1, g2, g3, g4, g5⟩ := look_sound h h3 h1.cell1
      split at g5
      · exact cut_ok hT ho E Q K Qx h g5 hK
      · exact slice_ok hT ho E Q K Qx h g5 hK
    · exact slice_ok hT ho E Q K Qx h h3 hK
  · exact slice_ok hT ho
end
end Go.Proofs.YtaecbmjmcpdgdaaGreat.Ab
