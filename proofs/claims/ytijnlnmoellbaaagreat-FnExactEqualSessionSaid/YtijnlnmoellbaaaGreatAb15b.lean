/- Calls that a variable is lent to. No program in sight. -/
import Derived.Test.YtijnlnmoellbaaaGreatAb15
namespace Go.Proofs.YtijnlnmoellbaaaGreat.Ab
open Go.RowKit
set_option linter.unusedVariables false
variable {P : Program} {T : Tab} {W : Base} {N : Nat}

theorem rawCells_sound {t : Nat} : ∀ {n p : Nat} {k : List CV → Pg} {Q : St → Prop} {σ : St}, (rawCells t p n k).wp Q σ →
    ∃ cs, cs.length = n ∧ cs.all CV.set = true ∧ (∀ (j : Nat) c, cs[j]? = some c → (σ (.cell t (p + j))).2 = .val false [c]) ∧ (k cs).wp Q σ
  | 0, p, k, Q, σ, hw => ⟨[], rfl, rfl, fun j c h => by simp at h, hw⟩
  | n + 1, p, k, Q, σ, hw => by
    simp only [rawCells, Pg.wp] at hw
    split at hw
    · rename_i c hc
      split at hw
      · rename_i hset
        obtain ⟨cs, h1, h2, h3, h4⟩ := rawCells_sound hw
        refine ⟨c :: cs, by simp [h1], by simp [hset, h2], fun j c' hj => ?_, h4⟩
        cases j with
        | zero =>
          obtain rfl := Option.some.inj hj
          exact hc
        | succ j =>
          rw [show p + (j + 1) = p + 1 + j by omega]
          exact h3 j c' (by simpa using hj)
      · exact hw.elim
    · exact hw.elim
/-- The blocks of variable t's own slices. -/
def Env.obOf (E : Env) (t m : Nat) (j : Nat) : Option Nat := if j < m then E.bk (.cell t j) 0 else none
theorem obOf_some {E : Env} {t m j x : Nat} (h : E.obOf t m j = some x) : j < m ∧ E.bk (.cell t j) 0 = some x := by
  unfold Env.obOf at h
  split at h
  · rename_i hj; exact ⟨hj, h⟩
  · cases h
theorem RelCV.resC {E : Env} {l : Loc} {j i : Nat} {v : Value} {c : CV} {X : Nat → Prop} {ob : Nat → Option Nat} (h : RelCV T W E l j v c) (hs : c.set = true) (hx : ∀ b, b < E.w.heap.size → X b → E.X b) (ho : ob i = E.bk l j) : ResC T E.w X 0 ob i v c := by
  cases c with
  | sl own e rows =>
    cases own with
    | true => exact ⟨h.1.move (Keeps.refl _ _) hx (fun _ _ => rfl), h.2.trans ho.symm⟩
    | false => exact RdR.move (h : RdR T E.w E.X _ _ _) (Keeps.refl _ _) hx
  | i k n => exact h
  | b x => exact h
  | s x => exact h
  | al q i n => cases hs
  | dead => cases hs
/-- A variable that is to be lent. -/
theorem Rel.boxR {E : Env} (h : Rel T W N E) {t m : Nat} (hm : (E.σ (.gen t)).2 = .num m) {cs : List CV} (hl : cs.length = m) (hs : cs.all CV.set = true) (hc : ∀ (j : Nat) c, cs[j]? = some c → (E.σ (.cell t j)).2 = .val false [c])
    {X : Nat → Prop} (hx : ∀ b, b < E.w.heap.size → X b → E.X b) : BoxR T E.w X (E.β t) (E.obOf t m) cs := by
  intro j c hj
  have hjm : j < m := by rw [← hl]; exact (List.getElem?_eq_some_iff.1 hj).1
  obtain ⟨c', v, e1, e2, e3, e4⟩ := h.cell t m j hm hjm
  rw [hc j c hj] at e1
  simp only [SV.val.injEq, List.cons.injEq, and_true, true_and] at e1
  subst e1
  exact ⟨v, e2, e3, e4.resC (List.all_eq_true.1 hs c (List.mem_of_getElem? hj)) hx (by unfold Env.obOf; rw [if_pos hjm])⟩

/-- The variable comes back; a result stands at the ghost place. -/
def Env.back (E : Env) (N t : Nat) (cs' : List CV) (w' : World) (bk ob' : Nat → Option Nat) : Env :=
  { E with σ := boxed t 0 cs' E.σ, w := w', bk := fun l j => match l with
     | .slot d => if d = N then bk j else E.bk (.slot d) j
     | .cell x i => if x = t ∧ i < cs'.length then (if j = 0 then ob' i else none) else E.bk (.cell x i) j
     | .gen x => E.bk (.gen x) j }
section back
variable {E : Env} {t : Nat} {cs' : List CV} {w' : World} {bk ob' : Nat → Option Nat} {v : Value} {r : SV}
theorem back_gen {x : Nat} : (E.back N t cs' w' bk ob').σ (.gen x) = E.σ (.gen x) := by show boxed _ _ _ _ _ = _; rw [boxed_out (fun j _ => by simp)]
theorem back_slot {x : Nat} : (E.back N t cs' w' bk ob').σ (.slot x) = E.σ (.slot x) := by show boxed _ _ _ _ _ = _; rw [boxed_out (fun j _ => by simp)]
theorem back_in {j : Nat} {c : CV} (h : cs'[j]? = some c) : (E.back N t cs' w' bk ob').σ (.cell t j) = ((E.σ (.cell t j)).1 + 1, .val false [c]) := by
  show boxed _ _ _ _ _ = _
  have := boxed_in (b := t) (p := 0) (σ := E.σ) h
  rw [Nat.zero_add] at this
  exact this
theorem back_out {x i : Nat} (h : ¬ (x = t ∧ i < cs'.length)) : (E.back N t cs' w' bk ob').σ (.cell x i) = E.σ (.cell x i) := by
  show boxed _ _ _ _ _ = _
  rw [boxed_out (fun j hj => by simp; intro h1 h2; exact h ⟨h1, by omega⟩)]
theorem back_alive {x : Nat} : (E.back N t cs' w' bk ob').alive x ↔ E.alive x := by unfold Env.alive; rw [back_gen]
theorem back_bk {l : Loc} {j x : Nat} (h : (E.back N t cs' w' bk ob').bk l j = some x) :
    (l = .slot N ∧ bk j = some x) ∨ (∃ i, l = .cell t i ∧ j = 0 ∧ i < cs'.length ∧ ob' i = some x) ∨ (l ≠ .slot N ∧ (∀ i, i < cs'.length → l ≠ .cell t i) ∧ E.bk l j = some x) := by
  cases l with
  | slot d =>
    simp only [Env.back] at h
    split at h
    · rename_i hd; subst hd; exact .inl ⟨rfl, h⟩
    · rename_i hd; exact .inr (.inr ⟨by simpa using hd, fun i _ => by simp, h⟩)
  | cell x' i =>
    simp only [Env.back] at h
    split at h
    · rename_i hi
      obtain ⟨rfl, hi⟩ := hi
      split at h
      · rename_i hj; subst hj; exact .inr (.inl ⟨i, rfl, rfl, hi, h⟩)
      · cases h
    · rename_i hi
      exact .inr (.inr ⟨by simp, fun i' hi' he => by
        simp only [Loc.cell.injEq] at he
        exact hi ⟨he.1, by omega⟩, h⟩)
  | gen x' => exact .inr (.inr ⟨by simp, fun i _ => by simp, h⟩)
theorem Rel.back (h : Rel T W N E) (hm : (E.σ (.gen t)).2 = .num cs'.length) {X : Nat → Prop} (hX : ∀ x, E.X x → ¬ boxB (E.β t) (E.obOf t cs'.length) x → X x)
    (he : BoxEnd T E.w w' X (E.β t) (E.obOf t cs'.length) bk ob' v r cs') : Rel T W N (E.back N t cs' w' bk ob') ∧ Step E (E.back N t cs' w' bk ob') ∧ RelSV T W (E.back N t cs' w' bk ob') (.slot N) v r := by
  have hat : E.alive t := ⟨_, hm⟩
  have hbox : ∀ x, boxB (E.β t) (E.obOf t cs'.length) x → E.X x := fun x hx => by
    rcases hx with rfl | ⟨j, hj⟩
    · exact .inr (.inl ⟨t, hat, rfl⟩)
    · exact .inr (.inr ⟨_, _, (obOf_some hj).2⟩)
  have notbox : ∀ t', E.alive t' → t' ≠ t → ¬ boxB (E.β t) (E.obOf t cs'.length) (E.β t') := fun t' ha hne hx => by
    rcases hx with hx | ⟨j, hj⟩
    · exact hne (h.bxinj t' t ha hat hx)
    · exact h.owbx _ _ _ t' (obOf_some hj).2 ha rfl
  have notown : ∀ l j x, E.bk l j = some x → (∀ i, i < cs'.length → l ≠ .cell t i) → ¬ boxB (E.β t) (E.obOf t cs'.length) x := fun l j x hl hne hx => by
    rcases hx with hx | ⟨i, hi⟩
    · exact h.owbx _ _ _ t hl hat hx
    · obtain ⟨hi, hb⟩ := obOf_some hi
      exact hne i hi (h.owinj _ _ _ _ _ hl hb).1
  have heap : ∀ x, x < E.w.heap.size → ¬ boxB (E.β t) (E.obOf t cs'.length) x → w'.heap[x]? = E.w.heap[x]? := he.block
  have old : ∀ x, (E.w.heap.size ≤ x ∨ ∃ i, E.obOf t cs'.length i = some x) → x < E.w.heap.size → E.X x := fun x hx hlt => by
    rcases hx with hx | ⟨i, hi⟩
    · omega
    · exact hbox x (.inr ⟨i, hi⟩)
  have s : Step E (E.back N t cs' w' bk ob') := by
    refine ⟨fun q => ?_, fun _ _ => rfl, ⟨he.size, fun x hx hn => heap x hx (fun hb => hn (hbox x hb))⟩, fun x hx hb => ?_⟩
    · cases q with
      | slot x => rw [back_slot]; exact ⟨Nat.le_refl _, fun _ _ => rfl⟩
      | gen x => rw [back_gen]; exact ⟨Nat.le_refl _, fun _ _ => rfl⟩
      | cell x i =>
        by_cases hin : x = t ∧ i < cs'.length
        · obtain ⟨rfl, hi⟩ := hin
          rw [back_in (List.getElem?_eq_getElem hi)]
          exact ⟨by simp, fun h => absurd h (by simp)⟩
        · rw [back_out hin]
          refine ⟨Nat.le_refl _, fun _ i' => ?_⟩
          by_cases hxt : x = t
          · subst hxt
            show Env.cellAt _ _ _ _ = Env.cellAt _ _ _ _
            rw [back_gen, hm]
            unfold Env.cellAt
            have hi : ¬ i < cs'.length := fun hi => hin ⟨rfl, hi⟩
            simp only
            rw [if_neg hi, if_neg hi]
          · exact Env.cellAt_congr (fun m => by rw [back_gen]) (fun m hm' => World.cell?_of_block (w := E.w) (heap _ (h.bxlo x ⟨m, hm'⟩).2 (notbox x ⟨m, hm'⟩ hxt)))
    · rcases hb with hb | ⟨t', ht, rfl⟩ | ⟨l, j, hl⟩
      · exact .inl hb
      · exact .inr (.inl ⟨t', back_alive.1 ht, rfl⟩)
      · rcases back_bk hl with ⟨_, h3⟩ | ⟨i, _, _, _, h3⟩ | ⟨_, _, h3⟩
        · exact old x (he.bkl _ _ h3).1 hx
        · exact old x (he.obl _ _ h3).1 hx
        · exact .inr (.inr ⟨l, j, h3⟩)
  have less : ∀ x, (E.back N t cs' w' bk ob').X x → X x ∨ boxB (E.β t) ob' x ∨ ∃ j, bk j = some x := fun x hb => by
    rcases hb with hb | ⟨t', ht, rfl⟩ | ⟨l, j, hl⟩
    · left
      have hx0 : E.x0 x := hb
      refine hX x (.inl hx0) (fun hbx => ?_)
      have hx0' : W.x0 x := h.x0 ▸ hx0
      have mine : W.mine x := by
        rcases hbx with rfl | ⟨i, hi⟩
        · exact (h.bxlo t hat).1
        · exact (h.owlo _ _ _ (obOf_some hi).2).1
      rcases mine with hm' | hm'
      · have := W.x0lt x hx0'; omega
      · exact W.lentx x hm' hx0'
    · by_cases e : t' = t
      · subst e; exact .inr (.inl (.inl rfl))
      · have ha' := back_alive.1 ht
        exact .inl (hX _ (.inr (.inl ⟨t', ha', rfl⟩)) (notbox t' ha' e))
    · rcases back_bk hl with ⟨_, h3⟩ | ⟨i, _, _, _, h3⟩ | ⟨_, h2, h3⟩
      · exact .inr (.inr ⟨j, h3⟩)
      · exact .inr (.inl (.inr ⟨i, h3⟩))
      · exact .inl (hX x (.inr (.inr ⟨l, j, h3⟩)) (notown l j x h3 h2))
  have mine : ∀ x, (E.w.heap.size ≤ x ∨ ∃ i, E.obOf t cs'.length i = some x) → W.mine x := fun x hx => by
    rcases hx with hx | ⟨i, hi⟩
    · exact .inl (Nat.le_trans h.base.size hx)
    · exact (h.owlo _ _ _ (obOf_some hi).2).1
  have fresh : ∀ x l j, (E.w.heap.size ≤ x ∨ ∃ i, E.obOf t cs'.length i = some x) → E.bk l j = some x → (∀ i, i < cs'.length → l ≠ .cell t i) → False := fun x l j hx hl hne => by
    rcases hx with hx | ⟨i, hi⟩
    · have := (h.owlo _ _ _ hl).2; omega
    · obtain ⟨hi, hb⟩ := obOf_some hi
      exact hne i hi (h.owinj _ _ _ _ _ hl hb).1
  have hres : RelSV T W (E.back N t cs' w' bk ob') (.slot N) v r := he.res.rel (E' := E.back N t cs' w' bk ob') (d := N) (Nat.le_refl 0) (fun j => by simp [Env.back]) (.inl fun b _ hb => less b hb)
  refine ⟨?_, s, hres⟩
  refine h.next s ?_ h.defers h.size (fun x => ?_) (fun x m j hm' hj => ?_) (fun x ha => ?_) (fun x x' h1 h2 e => h.bxinj x x' (back_alive.1 h1) (back_alive.1 h2) e) (fun l j x hl => ?_) (fun l j l' j' x hl hl' => ?_) (fun l j x t' hl ha => ?_)
  · exact h.base.next he.os he.tape he.output he.size (fun k hk hn => heap k hk (fun hb => hn (by
      rcases hb with rfl | ⟨i, hi⟩
      · exact (h.bxlo t hat).1
      · exact (h.owlo _ _ _ (obOf_some hi).2).1)))
  · by_cases eN : x = N
    · subst eN
      right
      rw [back_slot]
      exact (h.slot x).step s (fun ag cs j e rows he hc => (h.ghost he hc).elim)
    · left
      refine ⟨by rw [back_slot], rfl, fun j => ⟨by simp [Env.back, eN], fun g hg => heap g (h.owlo _ _ _ hg).2 (notown _ _ _ hg (fun i _ => by simp))⟩⟩
  · rw [back_gen] at hm'
    by_cases hxt : x = t
    · subst hxt
      right
      rw [hm] at hm'
      simp only [SV.num.injEq] at hm'
      subst hm'
      obtain ⟨u, e1, e2, e3⟩ := he.box j cs'[j] (List.getElem?_eq_getElem hj)
      refine ⟨cs'[j], u, by rw [back_in (List.getElem?_eq_getElem hj)], e1, e2, ?_⟩
      have hbk : (E.back N x cs' w' bk ob').bk (.cell x j) 0 = ob' j := by simp [Env.back, hj]
      cases hcj : cs'[j] with
      | sl own e rows =>
        rw [hcj] at e3
        cases own with
        | true => exact ⟨(e3.1 : Own T w' _ 0 e u rows).move (Keeps.refl _ _) (fun b _ hb => less b hb) (fun _ _ => rfl), e3.2.trans hbk.symm⟩
        | false => exact RdR.move (e3 : RdR T w' _ _ _ _) (Keeps.refl _ _) (fun b _ hb => less b hb)
      | i k n => rw [hcj] at e3; exact e3
      | b y => rw [hcj] at e3; exact e3
      | s y => rw [hcj] at e3; exact e3
      | al q i n => rw [hcj] at e3; exact e3.elim
      | dead => rw [hcj] at e3; exact e3.elim
    · left
      have ha : E.alive x := ⟨m, hm'⟩
      have hh : w'.heap[E.β x]? = E.w.heap[E.β x]? := heap _ (h.bxlo x ha).2 (notbox x ha hxt)
      exact ⟨hm', by rw [back_out (fun hh => hxt hh.1)], World.cell?_of_block (w := E.w) hh, World.frozen?_of_block (w := E.w) hh, by simp [Env.back, hxt], fun g hg => heap g (h.owlo _ _ _ hg).2 (notown _ _ _ hg (fun i _ => by simp [hxt]))⟩
  · have := h.bxlo x (back_alive.1 ha)
    have := he.size
    exact ⟨(h.bxlo x (back_alive.1 ha)).1, by show E.β x < w'.heap.size; omega⟩
  · rcases back_bk hl with ⟨_, h3⟩ | ⟨i, _, _, _, h3⟩ | ⟨_, _, h3⟩
    · exact ⟨mine x (he.bkl _ _ h3).1, (he.bkl _ _ h3).2⟩
    · exact ⟨mine x (he.obl _ _ h3).1, (he.obl _ _ h3).2⟩
    · have := h.owlo _ _ _ h3
      have := he.size
      exact ⟨(h.owlo _ _ _ h3).1, by show x < w'.heap.size; omega⟩
  · rcases back_bk hl with ⟨rfl, h3⟩ | ⟨i, rfl, rfl, _, h3⟩ | ⟨n1, n2, h3⟩
    · rcases back_bk hl' with ⟨rfl, h3'⟩ | ⟨i', rfl, rfl, _, h3'⟩ | ⟨n1', n2', h3'⟩
      · exact ⟨rfl, he.bki _ _ _ h3 h3'⟩
      · exact (he.bko _ _ _ h3 h3').elim
      · exact (fresh x l' j' (he.bkl _ _ h3).1 h3' n2').elim
    · rcases back_bk hl' with ⟨rfl, h3'⟩ | ⟨i', rfl, rfl, _, h3'⟩ | ⟨n1', n2', h3'⟩
      · exact (he.bko _ _ _ h3' h3).elim
      · rw [he.obi _ _ _ h3 h3']; exact ⟨rfl, rfl⟩
      · exact (fresh x l' j' (he.obl _ _ h3).1 h3' n2').elim
    · rcases back_bk hl' with ⟨rfl, h3'⟩ | ⟨i', rfl, rfl, _, h3'⟩ | ⟨n1', n2', h3'⟩
      · exact (fresh x l j (he.bkl _ _ h3').1 h3 n2).elim
      · exact (fresh x l j (he.obl _ _ h3').1 h3 n2).elim
      · exact h.owinj _ _ _ _ _ h3 h3'
  · have ha' := back_alive.1 ha
    have bl := (h.bxlo t' ha').2
    have oldb : ∀ x, (E.w.heap.size ≤ x ∨ ∃ i, E.obOf t cs'.length i = some x) → x ≠ E.β t' := fun x hx hxe => by
      rcases hx with hx | ⟨i, hi⟩
      · omega
      · exact h.owbx _ _ _ t' (obOf_some hi).2 ha' hxe
    rcases back_bk hl with ⟨_, h3⟩ | ⟨i, _, _, _, h3⟩ | ⟨_, _, h3⟩
    · exact oldb x (he.bkl _ _ h3).1
    · exact oldb x (he.obl _ _ h3).1
    · exact h.owbx _ _ _ t' h3 ha'
end back
theorem callB_ok {o : Oper} {f : FuncId} {s : FSpec} {xs : Array Operand} {ts : Array TypeId} (hf : FOk P T f s) (hbx : s.bx = true) (ho : o.op = .call { callee := .value (.func f), args := xs, argTypes := ts }) : OpOk P T W N o (stepCallB N o s xs.toList) := by
  intro E Q K Qx h hw hK
  have hrun : ∀ {E' : Env}, E'.a = E.a → (execOp E'.a.eval o).run P E'.w = .ok (.enter f (xs.toList.map E.a.eval).toArray) E'.w := by
    intro E' ha
    have hmap : xs.map E.a.eval = (xs.toList.map E.a.eval).toArray := by rw [← Array.toList_map]
    simp only [execOp, ho, resolve, Deferred.ofValue, Act.eval, ha, Sem.run_bind, Sem.run_pure, Result.andThen_ok, invoke]
    have := hf.call (xs.map E.a.eval) E'.w
    rw [hmap] at this
    simpa [hmap] using this
  unfold stepCallB at hw
  split at hw
  · rename_i x0 xr hxs
    obtain ⟨E1, args, r1, s1, b1, w1⟩ := argsPub_sound h hw
    obtain ⟨sv, h1, _f1, h3⟩ := rdv_sound r1 w1 (.slot N)
    split at h3
    · rename_i t g
      obtain ⟨e1, e2⟩ := h1
      simp only [Pg.wp] at h3
      split at h3
      · rename_i hg
        split at h3
        · rename_i m hm
          obtain ⟨cs, l1, l2, l3, w2⟩ := rawCells_sound h3
          simp only [Nat.zero_add] at l3
          obtain ⟨hpre, hlen, w3⟩ := w2
          have hat : E1.alive t := ⟨m, hm⟩
          have hptr : E1.a.eval x0 = .pointer (some ⟨E1.β t, 0, none⟩) := e2 hg
          refine s1.run ?_
          unfold Oper.wp
          rw [hrun s1.a, Oper.upon_enter, hxs, List.map_cons, ← s1.a, hptr]
          let X : Nat → Prop := fun x => E1.X x ∧ ¬ boxB (E1.β t) (E1.obOf t m) x
          have hxx : ∀ b, b < E1.w.heap.size → (X b ∨ boxB (E1.β t) (E1.obOf t m) b) → E1.X b := fun b _ hb => by
            rcases hb with hb | rfl | ⟨j, hj⟩
            · exact hb.1
            · exact .inr (.inl ⟨t, hat, rfl⟩)
            · exact .inr (.inr ⟨_, _, (obOf_some hj).2⟩)
          have hargs : ArgsR T E1.w (fun x => X x ∨ boxB (E1.β t) (E1.obOf t m) x) (xr.map E1.a.eval) args := by
            have b1' := b1
            rw [show xr.map E.a.eval = xr.map E1.a.eval by rw [s1.a]] at b1'
            exact b1'.less hxx
          refine (hf.okb hbx E1.w X (E1.β t) (E1.obOf t m) cs args (xr.map E1.a.eval) (fun x hx => r1.X_lt hx.1) (r1.bxlo t hat).2 (fun hx => hx.2 (.inl rfl)) (fun j x hj => ⟨(r1.owlo _ _ _ (obOf_some hj).2).2, fun hx => hx.2 (.inr ⟨j, hj⟩), r1.owbx _ _ _ t (obOf_some hj).2 hat⟩)
            (fun j j' x hj hj' => by
              have := (r1.owinj _ _ _ _ _ (obOf_some hj).2 (obOf_some hj').2).1
              simpa using this) (r1.boxR hm l1 l2 l3 hxx) hargs hpre).mono fun e w' ⟨v, bk, ob', he, hend⟩ => ?_
          subst he
          have hm' : (E1.σ (.gen t)).2 = .num (s.upd (.tup [(true, cs)] :: args)).length := by rw [hlen]; exact hm
          have hend' : BoxEnd T E1.w w' X (E1.β t) (E1.obOf t (s.upd (.tup [(true, cs)] :: args)).length) bk ob' v (s.res (.tup [(true, cs)] :: args)) (s.upd (.tup [(true, cs)] :: args)) := by rw [hlen]; exact hend
          obtain ⟨q1, q2, q3⟩ := r1.back hm' (X := X) (fun x hx hn => ⟨hx, by rw [hlen] at hn; exact hn⟩) hend'
          unfold boxSet at w3
          rw [setBox_wp] at w3
          split at w3
          · rename_i d hd
            rw [Pg.setF_eq] at w3
            rw [hd]
            exact hK _ (q1.lay (Pg.lt_wp w3).1 q3) (Pg.lt_wp w3).2
          · rename_i hd
            rw [hd]
            exact hK _ q1 w3
        · exact h3.elim
      · exact h3.elim
    · exact h3.elim
  · exact hw.elim
theorem callAny_ok {o : Oper} {f : FuncId} {s : FSpec} {xs : Array Operand} {ts : Array TypeId} (hf : FOk P T f s) (ho : o.op = .call { callee := .value (.func f), args := xs, argTypes := ts }) : OpOk P T W N o (stepCallAny T N o s xs.toList) := by
  unfold stepCallAny
  split
  · rename_i hb; exact call_ok hf hb ho
  · rename_i hb; exact callB_ok hf hb ho
end Go.Proofs.YtijnlnmoellbaaaGreat.Ab
