/- Owned slices are shared (frozen), taken out of their place, laid into another. No program in sight. -/
import Derived.Test.YtijnlnmoellbaaaGreatAb3
namespace Go.Proofs.YtijnlnmoellbaaaGreat.Ab
open Go.RowKit
variable {P : Program} {T : Tab} {W : Base} {N : Nat}

theorem Step.refl (E : Env) : Step E E := ⟨fun _ => ⟨Nat.le_refl _, fun _ _ => rfl⟩, fun _ _ => rfl, Keeps.refl _ _, fun _ _ h => h⟩
theorem Step.trans {A B C : Env} (h : Step A B) (k : Step B C) : Step A C := by
  refine ⟨fun q => ?_, fun t hg => ?_, ⟨Nat.le_trans h.keep.1 k.keep.1, fun b hb hn => ?_⟩, fun b hb hx => h.less b hb (k.less b (Nat.lt_of_lt_of_le hb h.keep.1) hx)⟩
  · obtain ⟨a1, a2⟩ := h.ver q
    obtain ⟨b1, b2⟩ := k.ver q
    refine ⟨Nat.le_trans a1 b1, fun e i => ?_⟩
    rw [b2 (by omega) i, a2 (by omega) i]
  · obtain ⟨a1, _⟩ := h.ver (.gen t)
    obtain ⟨b1, _⟩ := k.ver (.gen t)
    rw [k.gen t (by omega), h.gen t (by omega)]
  · rw [k.keep.2 b (Nat.lt_of_lt_of_le hb h.keep.1) (fun hx => hn (h.less b hb hx)), h.keep.2 b hb hn]

/-- Cell i of place q is turned into c; where its block is named changes to bk'. World, frame and versions stand. -/
def Env.turn (E : Env) (q : Loc) (ag : Bool) (cs : List CV) (i : Nat) (c : CV) (bk' : Loc → Nat → Option Nat) : Env :=
  { E with σ := updm E.σ q (.val ag (cs.set i c)), bk := bk' }
section turn
variable {E : Env} {q : Loc} {ag : Bool} {cs : List CV} {i : Nat} {c : CV} {bk' : Loc → Nat → Option Nat}
theorem turn_ver (l : Loc) : ((E.turn q ag cs i c bk').σ l).1 = (E.σ l).1 := by
  show (updw 0 _ _ _ l).1 = _
  unfold updw; split
  · rename_i h; simp [h]
  · rfl
theorem turn_other {l : Loc} (h : l ≠ q) : (E.turn q ag cs i c bk').σ l = E.σ l := by
  show updw 0 _ _ _ l = _; simp [updw, h]
theorem turn_same : ((E.turn q ag cs i c bk').σ q).2 = .val ag (cs.set i c) := by
  show (updw 0 _ _ _ q).2 = _; simp [updw]
theorem turn_alive (hq : (E.σ q).2 = .val ag cs) {t : Nat} : (E.turn q ag cs i c bk').alive t ↔ E.alive t := by
  unfold Env.alive
  by_cases e : Loc.gen t = q
  · rw [e, turn_same, hq]; simp
  · rw [turn_other e]
theorem turn_gen (hq : (E.σ q).2 = .val ag cs) {t m : Nat} : ((E.turn q ag cs i c bk').σ (.gen t)).2 = .num m ↔ (E.σ (.gen t)).2 = .num m := by
  by_cases e : Loc.gen t = q
  · rw [e, turn_same, hq]; simp
  · rw [turn_other e]
theorem turn_at (hq : (E.σ q).2 = .val ag cs) (l : Loc) (j : Nat) : (E.turn q ag cs i c bk').at_ l j = E.at_ l j := by
  cases l with
  | slot t => rfl
  | gen t => rfl
  | cell t j' => exact Env.cellAt_congr (fun m => turn_gen hq) (fun _ _ => rfl)
theorem turn_step (hq : (E.σ q).2 = .val ag cs) (hX : ∀ l j b, bk' l j = some b → ∃ l0 j0, E.bk l0 j0 = some b) : Step E (E.turn q ag cs i c bk') := by
  refine ⟨fun l => ⟨by rw [turn_ver]; exact Nat.le_refl _, fun _ j => turn_at hq l j⟩, fun t _ => rfl, Keeps.refl _ _, fun b _ hb => ?_⟩
  rcases hb with hb | ⟨t, ht, rfl⟩ | ⟨l, j, hl⟩
  · exact .inl hb
  · exact .inr (.inl ⟨t, (turn_alive hq).1 ht, rfl⟩)
  · exact .inr (.inr (hX l j b hl))
/-- The cells of q but i keep their blocks' names; the new cell is given. -/
theorem Rel.turn {e0 : TypeId} {rows0 : List (List D)} (h : Rel T W N E) (hq : (E.σ q).2 = .val ag cs) (hi : cs[i]? = some (.sl true e0 rows0)) (hX : ∀ l j b, bk' l j = some b → ∃ l0 j0, E.bk l0 j0 = some b)
    (hinj : ∀ l j l' j' b, bk' l j = some b → bk' l' j' = some b → l = l' ∧ j = j')
    (hsame : ∀ l j e rows, (∃ ag cs, (E.σ l).2 = .val ag cs ∧ cs[j]? = some (.sl true e rows)) → ¬ (l = q ∧ j = i) → bk' l j = E.bk l j)
    (hnew : Step E (E.turn q ag cs i c bk') → ∀ u, E.at_ q i = some u → RelCV T W E q i u (.sl true e0 rows0) → RelCV T W (E.turn q ag cs i c bk') q i u c) : Rel T W N (E.turn q ag cs i c bk') := by
  have s : Step E (E.turn q ag cs i c bk') := turn_step hq hX
  have hal : ∀ t, (E.turn q ag cs i c bk').alive t ↔ E.alive t := fun t => turn_alive hq
  refine ⟨h.base, h.x0, h.defers, h.size, fun t => ?_, fun t m j hm hj => ?_, fun t ha => h.bxlo t ((hal t).1 ha), fun t t' ha hb he => h.bxinj t t' ((hal t).1 ha) ((hal t').1 hb) he, fun l j b hb => ?_, hinj, fun l j b t hb ha => ?_, h.pin⟩
  · by_cases e : Loc.slot t = q
    · have h0 := h.slot t
      rw [e, turn_same]
      rw [e, hq] at h0
      have hat : ∀ j, E.at_ q j = (E.a.tmps.getD t undef).cells[j]? := fun j => by rw [← e]; rfl
      cases ag with
      | true =>
        obtain ⟨arr, h1, h2, h3⟩ := h0
        refine ⟨arr, h1, by simpa using h2, fun j c' hc' => ?_⟩
        rw [List.getElem?_set] at hc'
        split at hc'
        · rename_i hij
          subst hij
          split at hc'
          · obtain rfl := Option.some.inj hc'
            obtain ⟨u, hu, hr⟩ := h3 i _ hi
            exact ⟨u, hu, hnew s u (by rw [hat, h1]; exact hu) hr⟩
          · cases hc'
        · rename_i hij
          obtain ⟨u, hu, hr⟩ := h3 j c' hc'
          exact ⟨u, hu, hr.step s (fun e' rows he => ⟨hsame q j e' rows ⟨_, cs, hq, he ▸ hc'⟩ (fun hh => hij hh.2.symm), fun _ _ => rfl⟩)⟩
      | false =>
        obtain ⟨c0, rfl, h2⟩ := h0
        cases i with
        | zero =>
          refine ⟨c, rfl, ?_⟩
          obtain rfl : c0 = .sl true e0 rows0 := Option.some.inj hi
          exact hnew s _ (by rw [hat, h2.cells1]; rfl) h2
        | succ i => cases hi
    · rw [turn_other e]
      exact (h.slot t).step s (fun ag' cs' j e' rows he hc => ⟨hsame (.slot t) j e' rows ⟨ag', cs', he, hc⟩ (fun hh => e hh.1), fun _ _ => rfl⟩)
  · have hm' : (E.σ (.gen t)).2 = .num m := (turn_gen hq).1 hm
    obtain ⟨c0, v, e1, e2, e3, e4⟩ := h.cell t m j hm' hj
    by_cases e : Loc.cell t j = q
    · rw [e] at e1 e4
      rw [hq] at e1
      simp only [SV.val.injEq] at e1
      obtain ⟨rfl, rfl⟩ := e1
      have hat : E.at_ q 0 = some v := by rw [← e, Env.at_cell hm' hj]; exact e2
      rw [e, turn_same]
      cases i with
      | zero =>
        obtain rfl : c0 = .sl true e0 rows0 := Option.some.inj hi
        exact ⟨c, v, rfl, e2, e3, hnew s v hat e4⟩
      | succ i => cases hi
    · rw [turn_other e]
      exact ⟨c0, v, e1, e2, e3, e4.step s (fun e' rows he => ⟨hsame (.cell t j) 0 e' rows ⟨_, _, e1, by rw [he]; rfl⟩ (fun hh => e hh.1), fun _ _ => rfl⟩)⟩
  · obtain ⟨l0, j0, h0⟩ := hX l j b hb
    exact h.owlo l0 j0 b h0
  · obtain ⟨l0, j0, h0⟩ := hX l j b hb
    exact h.owbx l0 j0 b t h0 ((hal t).1 ha)
end turn

/-! An alias is looked up -/
def lookAt (q : Loc) (i n : Nat) (k : Bool → List CV → Bool → TypeId → List (List D) → Pg) : Pg :=
  .get q fun v => if v.1 = n then
    match v.2 with
    | .val ag cs => match cs[i]? with
      | some (.sl o e rows) => k ag cs o e rows
      | _ => .fail
    | _ => .fail
  else .fail
def look (q : Loc) (i n : Nat) (k : Bool → List CV → Bool → TypeId → List (List D) → Pg) : Pg :=
  match q with
  | .slot t => lookAt (.slot t) i n k
  | .cell t j => .get (.gen t) fun g => match g.2 with
    | .num m => if j < m then lookAt (.cell t j) i n k else .fail
    | _ => .fail
  | .gen _ => .fail
theorem lookAt_spec {q : Loc} {i n : Nat} {k : Bool → List CV → Bool → TypeId → List (List D) → Pg} {Q : St → Prop} {σ : St} (hw : (lookAt q i n k).wp Q σ) :
    (σ q).1 = n ∧ ∃ ag cs o e rows, (σ q).2 = .val ag cs ∧ cs[i]? = some (.sl o e rows) ∧ (k ag cs o e rows).wp Q σ := by
  unfold lookAt at hw
  simp only [Pg.wp] at hw
  split at hw
  · rename_i hn
    refine ⟨hn, ?_⟩
    split at hw
    · rename_i ag cs hv
      split at hw
      · rename_i o e rows hc
        exact ⟨ag, cs, o, e, rows, hv, hc, hw⟩
      · exact hw.elim
    · exact hw.elim
  · exact hw.elim
theorem look_sound {E : Env} (h : Rel T W N E) {q : Loc} {i n : Nat} {k : Bool → List CV → Bool → TypeId → List (List D) → Pg} {Q : St → Prop} (hw : (look q i n k).wp Q E.σ)
    {l : Loc} {j : Nat} {u : Value} (hal : RelCV T W E l j u (.al q i n)) :
    ∃ ag cs o e rows, (E.σ q).2 = .val ag cs ∧ cs[i]? = some (.sl o e rows) ∧ E.at_ q i = some u ∧ RelCV T W E q i u (.sl o e rows) ∧ (k ag cs o e rows).wp Q E.σ := by
  cases q with
  | slot t =>
    obtain ⟨hn, ag, cs, o, e, rows, h1, h2, h3⟩ := lookAt_spec (show (lookAt (.slot t) i n k).wp Q E.σ from hw)
    have hat : E.at_ (.slot t) i = some u := hal.2 hn
    refine ⟨ag, cs, o, e, rows, h1, h2, hat, ?_, h3⟩
    have hs := h.slot t
    rw [h1] at hs
    cases ag with
    | true =>
      obtain ⟨arr, e1, e2, e3⟩ := hs
      obtain ⟨u', hu', hr⟩ := e3 i _ h2
      have : E.at_ (.slot t) i = some u' := by show (E.a.tmps.getD t undef).cells[i]? = _; rw [e1]; exact hu'
      rw [hat] at this
      obtain rfl := Option.some.inj this
      exact hr
    | false =>
      obtain ⟨c, rfl, hr⟩ := hs
      cases i with
      | succ i => cases h2
      | zero =>
        obtain rfl : c = .sl o e rows := Option.some.inj h2
        have hc : (E.a.tmps.getD t undef).cells = #[E.a.tmps.getD t undef] := by
          cases o with
          | true => exact hr.cells1
          | false => exact RdR.cells (hr : RdR T _ _ _ _ _)
        have : E.at_ (.slot t) 0 = some (E.a.tmps.getD t undef) := by show (E.a.tmps.getD t undef).cells[0]? = _; rw [hc]; rfl
        rw [hat] at this
        obtain rfl := Option.some.inj this
        exact hr
  | cell t j' =>
    unfold look at hw
    simp only [Pg.wp] at hw
    split at hw
    · rename_i m hm
      split at hw
      · rename_i hjm
        obtain ⟨hn, ag, cs, o, e, rows, h1, h2, h3⟩ := lookAt_spec hw
        have hat : E.at_ (.cell t j') i = some u := hal.2 hn
        refine ⟨ag, cs, o, e, rows, h1, h2, hat, ?_, h3⟩
        obtain ⟨c, v, e1, e2, e3, e4⟩ := h.cell t m j' hm hjm
        rw [h1] at e1
        simp only [SV.val.injEq] at e1
        obtain ⟨rfl, rfl⟩ := e1
        cases i with
        | succ i => cases h2
        | zero =>
          obtain rfl : c = .sl o e rows := Option.some.inj h2
          have : E.at_ (.cell t j') 0 = some v := (Env.at_cell hm hjm).trans e2
          rw [hat] at this
          obtain rfl := Option.some.inj this
          exact e4
      · exact hw.elim
    · exact hw.elim
  | gen t => exact hw.elim

theorem Rel.freeze {E : Env} (h : Rel T W N E) {q : Loc} {ag : Bool} {cs : List CV} {i : Nat} {e : TypeId} {rows : List (List D)} (hq : (E.σ q).2 = .val ag cs) (hi : cs[i]? = some (.sl true e rows)) :
    Rel T W N (E.turn q ag cs i (.sl false e rows) fun l j => if l = q ∧ j = i then none else E.bk l j) ∧
    (∀ u, RelCV T W E q i u (.sl true e rows) → RdR T E.w (E.turn q ag cs i (.sl false e rows) fun l j => if l = q ∧ j = i then none else E.bk l j).X (.l e) u (.l rows)) := by
  have hX : ∀ l j b, (fun l j => if l = q ∧ j = i then none else E.bk l j) l j = some b → ∃ l0 j0, E.bk l0 j0 = some b := by
    intro l j b hb
    simp only at hb
    split at hb
    · cases hb
    · exact ⟨l, j, hb⟩
  have key : ∀ u, RelCV T W E q i u (.sl true e rows) → RdR T E.w (E.turn q ag cs i (.sl false e rows) fun l j => if l = q ∧ j = i then none else E.bk l j).X (.l e) u (.l rows) := by
    intro u hu
    refine hu.1.shared (turn_step hq hX).less fun b hb hx => ?_
    have hbk : E.bk q i = some b := hu.2.symm.trans hb
    rcases hx with hx | ⟨t, ht, rfl⟩ | ⟨l, j, hl⟩
    · have h1 := W.x0lt b (h.x0 ▸ hx)
      rcases (h.owlo q i b hbk).1 with h2 | h2
      · omega
      · exact W.lentx b h2 (h.x0 ▸ hx)
    · exact h.owbx q i _ t hbk ((turn_alive hq).1 ht) rfl
    · simp only [Env.turn] at hl
      split at hl
      · cases hl
      · rename_i hne
        obtain ⟨h1, h2⟩ := h.owinj q i l j b hbk hl
        exact hne ⟨h1.symm, h2.symm⟩
  refine ⟨h.turn hq hi hX (fun l j l' j' b hb hb' => ?_) (fun l j e' rows' _ hne => by simp only [if_neg hne]) (fun _ u _ hu => key u hu), key⟩
  split at hb
  · cases hb
  · split at hb'
    · cases hb'
    · exact h.owinj l j l' j' b hb hb'

/-- The place N is no slot: what has been taken out of its place and not yet laid into another is named there. -/
theorem Rel.ghost {E : Env} (h : Rel T W N E) {ag : Bool} {cs : List CV} {j : Nat} {e : TypeId} {rows : List (List D)} (hq : (E.σ (.slot N)).2 = .val ag cs) (hj : cs[j]? = some (.sl true e rows)) : False := by
  have hs := h.slot N
  have hu : E.a.tmps.getD N undef = undef := by simp [h.size]
  rw [hu, hq] at hs
  cases ag with
  | true =>
    obtain ⟨arr, e1, _⟩ := hs
    cases e1
  | false =>
    obtain ⟨c, rfl, hr⟩ := hs
    cases j with
    | succ j => cases hj
    | zero =>
      obtain rfl : c = .sl true e rows := Option.some.inj hj
      obtain ⟨A, c', e1⟩ := hr.1.slice
      cases e1
def takeBk (E : Env) (N : Nat) (q : Loc) (i j0 : Nat) : Loc → Nat → Option Nat := fun l j => if l = q ∧ j = i then none else if l = .slot N ∧ j = j0 then E.bk q i else E.bk l j
theorem Rel.take {E : Env} (h : Rel T W N E) {q : Loc} {ag : Bool} {cs : List CV} {i j0 : Nat} {e : TypeId} {rows : List (List D)} (hq : (E.σ q).2 = .val ag cs) (hi : cs[i]? = some (.sl true e rows)) :
    Rel T W N (E.turn q ag cs i .dead (takeBk E N q i j0)) ∧ Step E (E.turn q ag cs i .dead (takeBk E N q i j0)) ∧
    (∀ u, RelCV T W E q i u (.sl true e rows) → RelCV T W (E.turn q ag cs i .dead (takeBk E N q i j0)) (.slot N) j0 u (.sl true e rows)) := by
  have hqN : ¬ (Loc.slot N = q ∧ j0 = i) := by
    rintro ⟨rfl, rfl⟩
    exact h.ghost hq hi
  have hX : ∀ l j b, takeBk E N q i j0 l j = some b → ∃ l0 j0, E.bk l0 j0 = some b := by
    intro l j b hb
    unfold takeBk at hb
    split at hb
    · cases hb
    · split at hb
      · exact ⟨q, i, hb⟩
      · exact ⟨l, j, hb⟩
  have s := turn_step (E := E) (q := q) (i := i) (c := .dead) hq hX
  refine ⟨h.turn hq hi hX (fun l j l' j' b hb hb' => ?_) (fun l j e' rows' hown hne => ?_) (fun _ u _ _ => trivial), s, fun u hu => ⟨hu.1.move s.keep s.less (fun _ _ => rfl), ?_⟩⟩
  · unfold takeBk at hb hb'
    split at hb
    · cases hb
    · rename_i n1
      split at hb'
      · cases hb'
      · rename_i n2
        split at hb
        · rename_i g1
          split at hb'
          · rename_i g2; exact ⟨g1.1.trans g2.1.symm, g1.2.trans g2.2.symm⟩
          · obtain ⟨a1, a2⟩ := h.owinj q i l' j' b hb hb'
            exact absurd ⟨a1.symm, a2.symm⟩ n2
        · split at hb'
          · obtain ⟨a1, a2⟩ := h.owinj l j q i b hb hb'
            exact absurd ⟨a1, a2⟩ n1
          · exact h.owinj l j l' j' b hb hb'
  · unfold takeBk
    rw [if_neg hne]
    split
    · rename_i g
      obtain ⟨ag', cs', h1, h2⟩ := hown
      rw [g.1] at h1
      exact (h.ghost h1 h2).elim
    · rfl
  · rw [hu.2]
    show _ = takeBk E N q i j0 (.slot N) j0
    unfold takeBk
    rw [if_neg hqN, if_pos ⟨rfl, rfl⟩]

/-! Lists of cells are taken (with what they own) or shared -/
def CV.set : CV → Bool
  | .al .. | .dead => false
  | _ => true
def CV.free : CV → Bool
  | .sl true _ _ => false
  | _ => true
def CellsR (T : Tab) (W : Base) (E : Env) (l : Loc) (j : Nat) (cs : List CV) (us : List Value) : Prop :=
  cs.length = us.length ∧ ∀ (i : Nat) c u, cs[i]? = some c → us[i]? = some u → RelCV T W E l (j + i) u c
def mov1 (c : CV) (k : CV → Pg) : Pg :=
  match c with
  | .al q i n => look q i n fun ag cs o e rows => match o with
    | true => .set 0 q (.val ag (cs.set i .dead)) (k (.sl true e rows))
    | false => k (.sl false e rows)
  | .dead => .fail
  | c => k c
def movs : List CV → (List CV → Pg) → Pg
  | [], k => k []
  | c :: r, k => mov1 c fun c' => movs r fun r' => k (c' :: r')
def pub1 (c : CV) (k : CV → Pg) : Pg :=
  match c with
  | .al q i n => look q i n fun ag cs o e rows => match o with
    | true => .set 0 q (.val ag (cs.set i (.sl false e rows))) (k (.sl false e rows))
    | false => k (.sl false e rows)
  | .dead => .fail
  | c => k c
def pubs : List CV → (List CV → Pg) → Pg
  | [], k => k []
  | c :: r, k => pub1 c fun c' => pubs r fun r' => k (c' :: r')
/-- What is left by sharing or taking: world, frame and boxes stand. -/
structure Same (E E' : Env) : Prop where
  a : E'.a = E.a
  w : E'.w = E.w
  β : E'.β = E.β
  step : Step E E'
theorem Same.refl (E : Env) : Same E E := ⟨rfl, rfl, rfl, .refl E⟩
theorem Same.trans {A B C : Env} (h : Same A B) (k : Same B C) : Same A C := ⟨k.a.trans h.a, k.w.trans h.w, k.β.trans h.β, h.step.trans k.step⟩
theorem mov1_sound {E : Env} (h : Rel T W N E) {c : CV} {k : CV → Pg} {Q : St → Prop} {j : Nat} {u : Value} (hc : RelCV T W E (.slot N) j u c) (hf : c.free = true) (hw : (mov1 c k).wp Q E.σ) :
    ∃ E' c', Rel T W N E' ∧ Same E E' ∧ RelCV T W E' (.slot N) j u c' ∧ c'.set = true ∧ (∀ j', j' ≠ j → E'.bk (.slot N) j' = E.bk (.slot N) j') ∧ (k c').wp Q E'.σ := by
  cases c with
  | al q i n =>
    obtain ⟨ag, cs, o, e, rows, h1, h2, h3, h4, h5⟩ := look_sound h (show (look q i n _).wp Q E.σ from hw) hc
    cases o with
    | true =>
      obtain ⟨r1, r2, r3⟩ := h.take (j0 := j) h1 h2
      refine ⟨_, _, r1, ⟨rfl, rfl, rfl, r2⟩, r3 u h4, rfl, fun j' hj' => ?_, h5⟩
      show takeBk E N q i j (.slot N) j' = _
      unfold takeBk
      split
      · rename_i g
        obtain ⟨rfl, rfl⟩ := g
        exact (h.ghost h1 h2).elim
      · rw [if_neg (fun g => hj' g.2)]
    | false => exact ⟨E, .sl false e rows, h, .refl E, h4, rfl, fun _ _ => rfl, h5⟩
  | dead => exact hw.elim
  | sl own e rows =>
    cases own with
    | true => cases hf
    | false => exact ⟨E, _, h, .refl E, hc, rfl, fun _ _ => rfl, hw⟩
  | i k' n => exact ⟨E, _, h, .refl E, hc, rfl, fun _ _ => rfl, hw⟩
  | b x => exact ⟨E, _, h, .refl E, hc, rfl, fun _ _ => rfl, hw⟩
  | s x => exact ⟨E, _, h, .refl E, hc, rfl, fun _ _ => rfl, hw⟩
theorem movs_sound : ∀ {cs : List CV} {k : List CV → Pg} {Q : St → Prop} {E : Env} {j : Nat} {us : List Value}, Rel T W N E → CellsR T W E (.slot N) j cs us → cs.all CV.free = true → (movs cs k).wp Q E.σ →
    ∃ E' cs', Rel T W N E' ∧ Same E E' ∧ CellsR T W E' (.slot N) j cs' us ∧ cs'.all CV.set = true ∧ (∀ j', j' < j ∨ j + cs.length ≤ j' → E'.bk (.slot N) j' = E.bk (.slot N) j') ∧ (k cs').wp Q E'.σ
  | [], k, Q, E, j, us, h, hc, _, hw => ⟨E, [], h, .refl E, hc, rfl, fun _ _ => rfl, hw⟩
  | c :: r, k, Q, E, j, us, h, hc, hf, hw => by
    cases us with
    | nil => exact absurd hc.1 (by simp)
    | cons u us =>
      simp only [List.all_cons, Bool.and_eq_true] at hf
      obtain ⟨E1, c', h1, s1, r1, t1, b1, w1⟩ := mov1_sound h (hc.2 0 c u rfl rfl) hf.1 hw
      have hr : CellsR T W E1 (.slot N) (j + 1) r us := by
        refine ⟨by simpa using hc.1, fun i c0 u0 hc0 hu0 => ?_⟩
        have := hc.2 (i + 1) c0 u0 (by simpa using hc0) (by simpa using hu0)
        rw [show j + 1 + i = j + (i + 1) by omega]
        exact this.step s1.step (fun e rows he => by
          have := List.all_eq_true.1 hf.2 c0 (List.mem_of_getElem? hc0)
          rw [he] at this; cases this)
      obtain ⟨E2, r', h2, s2, r2, t2, b2, w2⟩ := movs_sound h1 hr hf.2 w1
      refine ⟨E2, c' :: r', h2, s1.trans s2, ⟨by simp [r2.1], fun i c0 u0 hc0 hu0 => ?_⟩, by simp [t1, t2], fun j' hj' => by
        simp only [List.length_cons] at hj'
        exact (b2 j' (by omega)).trans (b1 j' (by omega)), w2⟩
      cases i with
      | zero =>
        obtain rfl := Option.some.inj hc0
        obtain rfl := Option.some.inj hu0
        exact r1.step s2.step (fun e rows _ => ⟨b2 j (by omega), fun b _ => by rw [s2.w]⟩)
      | succ i =>
        have := r2.2 i c0 u0 (by simpa using hc0) (by simpa using hu0)
        rw [show j + (i + 1) = j + 1 + i by omega]
        exact this
theorem pub1_sound {E : Env} (h : Rel T W N E) {c : CV} {k : CV → Pg} {Q : St → Prop} {l : Loc} {j : Nat} {u : Value} (hc : RelCV T W E l j u c) (hf : c.free = true) (hw : (pub1 c k).wp Q E.σ) :
    ∃ E' c', Rel T W N E' ∧ Same E E' ∧ RelCV T W E' l j u c' ∧ c'.set = true ∧ c'.free = true ∧ (k c').wp Q E'.σ := by
  cases c with
  | al q i n =>
    obtain ⟨ag, cs, o, e, rows, h1, h2, h3, h4, h5⟩ := look_sound h (show (look q i n _).wp Q E.σ from hw) hc
    cases o with
    | true =>
      obtain ⟨r1, r2⟩ := h.freeze h1 h2
      refine ⟨_, .sl false e rows, r1, ⟨rfl, rfl, rfl, turn_step h1 fun l j b hb => ?_⟩, r2 u h4, rfl, rfl, h5⟩
      split at hb
      · cases hb
      · exact ⟨l, j, hb⟩
    | false => exact ⟨E, .sl false e rows, h, .refl E, h4, rfl, rfl, h5⟩
  | dead => exact hw.elim
  | sl own e rows =>
    cases own with
    | true => cases hf
    | false => exact ⟨E, _, h, .refl E, hc, rfl, rfl, hw⟩
  | i k' n => exact ⟨E, _, h, .refl E, hc, rfl, rfl, hw⟩
  | b x => exact ⟨E, _, h, .refl E, hc, rfl, rfl, hw⟩
  | s x => exact ⟨E, _, h, .refl E, hc, rfl, rfl, hw⟩
theorem pubs_sound : ∀ {cs : List CV} {k : List CV → Pg} {Q : St → Prop} {E : Env} {l : Loc} {j : Nat} {us : List Value}, Rel T W N E → CellsR T W E l j cs us → cs.all CV.free = true → (pubs cs k).wp Q E.σ →
    ∃ E' cs', Rel T W N E' ∧ Same E E' ∧ CellsR T W E' l j cs' us ∧ cs'.all CV.set = true ∧ cs'.all CV.free = true ∧ (k cs').wp Q E'.σ
  | [], k, Q, E, l, j, us, h, hc, _, hw => ⟨E, [], h, .refl E, hc, rfl, rfl, hw⟩
  | c :: r, k, Q, E, l, j, us, h, hc, hf, hw => by
    cases us with
    | nil => exact absurd hc.1 (by simp)
    | cons u us =>
      simp only [List.all_cons, Bool.and_eq_true] at hf
      obtain ⟨E1, c', h1, s1, r1, t1, f1, w1⟩ := pub1_sound h (hc.2 0 c u rfl rfl) hf.1 hw
      have hr : CellsR T W E1 l (j + 1) r us := by
        refine ⟨by simpa using hc.1, fun i c0 u0 hc0 hu0 => ?_⟩
        have := hc.2 (i + 1) c0 u0 (by simpa using hc0) (by simpa using hu0)
        rw [show j + 1 + i = j + (i + 1) by omega]
        exact this.step s1.step (fun e rows he => by
          have := List.all_eq_true.1 hf.2 c0 (List.mem_of_getElem? hc0)
          rw [he] at this; cases this)
      obtain ⟨E2, r', h2, s2, r2, t2, f2, w2⟩ := pubs_sound h1 hr hf.2 w1
      refine ⟨E2, c' :: r', h2, s1.trans s2, ⟨by simp [r2.1], fun i c0 u0 hc0 hu0 => ?_⟩, by simp [t1, t2], by simp [f1, f2], w2⟩
      cases i with
      | zero =>
        obtain rfl := Option.some.inj hc0
        obtain rfl := Option.some.inj hu0
        exact r1.step s2.step (fun e rows he => by rw [he] at f1; cases f1)
      | succ i =>
        have := r2.2 i c0 u0 (by simpa using hc0) (by simpa using hu0)
        rw [show j + (i + 1) = j + 1 + i by omega]
        exact this
end Go.Proofs.YtijnlnmoellbaaaGreat.Ab
