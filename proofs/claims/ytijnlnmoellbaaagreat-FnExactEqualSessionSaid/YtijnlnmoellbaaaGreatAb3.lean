/- Steps of the relation: a slot takes a value; an owned slice is shared, or moved; operands are read. No program in sight. -/
import Derived.Test.YtijnlnmoellbaaaGreatAb2
namespace Go.Proofs.YtijnlnmoellbaaaGreat.Ab
open Go.RowKit
variable {P : Program} {T : Tab} {W : Base} {N : Nat}

theorem getD_put_ne {a : Act} {d t : Nat} {v : Value} (h : t ≠ d) : (a.put (some d) v).tmps.getD t undef = a.tmps.getD t undef := by
  simp [Act.put, Array.getElem?_setIfInBounds_ne (Ne.symm h)]
theorem getD_put_same {a : Act} {d : Nat} {v : Value} (h : d < a.tmps.size) : (a.put (some d) v).tmps.getD d undef = v := by
  simp [Act.put, h]
theorem size_put {a : Act} {d : Option Nat} {v : Value} : (a.put d v).tmps.size = a.tmps.size := by cases d <;> simp [Act.put]
theorem defers_put {a : Act} {d : Option Nat} {v : Value} : (a.put d v).defers = a.defers := by cases d <;> rfl

theorem Rel.X_lt {E : Env} (h : Rel T W N E) {b : Nat} (hb : E.X b) : b < E.w.heap.size := by
  rcases hb with hb | ⟨t, ha, rfl⟩ | ⟨l, j, hl⟩
  · exact Nat.lt_of_lt_of_le (W.x0lt b (h.x0 ▸ hb)) h.base.size
  · exact (h.bxlo t ha).2
  · exact (h.owlo l j b hl).2

/-- An unchanged place, or what now stands there. -/
theorem Rel.next {E E' : Env} (h : Rel T W N E) (s : Step E E') (base : Kept W E'.w) (hd : E'.a.defers = []) (hsz : E'.a.tmps.size = N)
    (slots : ∀ t, ((E'.σ (.slot t)).2 = (E.σ (.slot t)).2 ∧ E'.a.tmps.getD t undef = E.a.tmps.getD t undef ∧
        ∀ j, E'.bk (.slot t) j = E.bk (.slot t) j ∧ ∀ b, E.bk (.slot t) j = some b → E'.w.heap[b]? = E.w.heap[b]?) ∨
      RelSV T W E' (.slot t) (E'.a.tmps.getD t undef) (E'.σ (.slot t)).2)
    (cells : ∀ t m j, (E'.σ (.gen t)).2 = .num m → j < m → ((E.σ (.gen t)).2 = .num m ∧ (E'.σ (.cell t j)).2 = (E.σ (.cell t j)).2 ∧ E'.w.cell? ⟨E'.β t, j, none⟩ = E.w.cell? ⟨E.β t, j, none⟩ ∧
        E'.w.frozen? ⟨E'.β t, j, none⟩ = E.w.frozen? ⟨E.β t, j, none⟩ ∧ E'.bk (.cell t j) 0 = E.bk (.cell t j) 0 ∧ ∀ b, E.bk (.cell t j) 0 = some b → E'.w.heap[b]? = E.w.heap[b]?) ∨
      (∃ c v, (E'.σ (.cell t j)).2 = .val false [c] ∧ E'.w.cell? ⟨E'.β t, j, none⟩ = some v ∧ E'.w.frozen? ⟨E'.β t, j, none⟩ = false ∧ RelCV T W E' (.cell t j) 0 v c))
    (bxlo : ∀ t, E'.alive t → W.mine (E'.β t) ∧ E'.β t < E'.w.heap.size) (bxinj : ∀ t t', E'.alive t → E'.alive t' → E'.β t = E'.β t' → t = t')
    (owlo : ∀ l j b, E'.bk l j = some b → W.mine b ∧ b < E'.w.heap.size) (owinj : ∀ l j l' j' b, E'.bk l j = some b → E'.bk l' j' = some b → l = l' ∧ j = j')
    (owbx : ∀ l j b t, E'.bk l j = some b → E'.alive t → b ≠ E'.β t) (hx0 : E'.x0 = E.x0 := by rfl) (hβN : E'.β N = E.β N := by rfl) : Rel T W N E' := by
  refine ⟨base, hx0.trans h.x0, hd, hsz, fun t => ?_, fun t m j hm hj => ?_, bxlo, bxinj, owlo, owinj, owbx, fun b hb => hβN.trans (h.pin b hb)⟩
  · rcases slots t with ⟨h1, h2, h3⟩ | h1
    · rw [h1, h2]
      exact (h.slot t).step s (fun _ _ j _ _ _ _ => h3 j)
    · exact h1
  · rcases cells t m j hm hj with ⟨h1, h2, h3, h4, h5, h6⟩ | h1
    · obtain ⟨c, v, e1, e2, e3, e4⟩ := h.cell t m j h1 hj
      exact ⟨c, v, h2.trans e1, h3.trans e2, h4.trans e3, e4.step s (fun _ _ _ => ⟨h5, h6⟩)⟩
    · exact h1

theorem Keeps.refl (w : World) (c : Nat → Prop) : Keeps w w c := ⟨Nat.le_refl _, fun _ _ _ => rfl⟩

/-- A slot takes a value; the world stands. -/
def Env.put (E : Env) (d : Nat) (v : Value) (sv : SV) : Env :=
  { E with σ := upd E.σ (.slot d) sv, a := E.a.put (some d) v, bk := fun l j => if l = .slot d then none else E.bk l j }
theorem upd_other {σ : St} {l l' : Loc} {x : SV} (h : l' ≠ l) : upd σ l x l' = σ l' := by simp [updw, h]
theorem upd_same {σ : St} {l : Loc} {x : SV} : upd σ l x l = ((σ l).1 + 1, x) := by simp [updw]
theorem Env.put_alive {E : Env} {d : Nat} {v : Value} {sv : SV} {t : Nat} : (E.put d v sv).alive t ↔ E.alive t := by
  unfold Env.alive Env.put; simp only [upd_other (show Loc.gen t ≠ Loc.slot d by simp)]
theorem Env.put_step {E : Env} {d : Nat} {v : Value} {sv : SV} : Step E (E.put d v sv) := by
  refine ⟨fun q => ?_, fun t _ => rfl, Keeps.refl _ _, fun b _ hb => ?_⟩
  · by_cases e : q = .slot d
    · subst e
      show (E.σ _).1 ≤ (upd E.σ _ _ _).1 ∧ ((upd E.σ _ _ _).1 = _ → _)
      rw [upd_same]
      exact ⟨by simp, fun h => absurd h (by simp)⟩
    · show (E.σ _).1 ≤ (upd E.σ _ _ _).1 ∧ _
      rw [upd_other e]
      refine ⟨Nat.le_refl _, fun _ i => ?_⟩
      cases q with
      | slot t =>
        have : t ≠ d := fun h => e (by rw [h])
        show ((E.a.put (some d) v).tmps.getD t undef).cells[i]? = _
        rw [getD_put_ne this]; rfl
      | cell t j => exact Env.cellAt_congr (fun m => by show (upd _ _ _ _).2 = _ ↔ _; rw [upd_other (by simp)]) (fun _ _ => rfl)
      | gen t => rfl
  · rcases hb with hb | ⟨t, ht, rfl⟩ | ⟨l, j, hl⟩
    · exact .inl hb
    · exact .inr (.inl ⟨t, Env.put_alive.1 ht, rfl⟩)
    · refine .inr (.inr ?_)
      simp only [Env.put] at hl
      split at hl
      · cases hl
      · exact ⟨l, j, hl⟩
theorem Rel.put {E : Env} (h : Rel T W N E) {d : Nat} {v : Value} {sv : SV} (hd : d < N) (hv : Step E (E.put d v sv) → RelSV T W (E.put d v sv) (.slot d) v sv) : Rel T W N (E.put d v sv) := by
  have s : Step E (E.put d v sv) := Env.put_step
  refine h.next s h.base (by rw [← h.defers]; rfl) (by rw [← h.size]; exact size_put) (fun t => ?_) (fun t m j hm hj => ?_) (fun t ha => h.bxlo t (Env.put_alive.1 ha)) (fun t t' ha hb he => h.bxinj t t' (Env.put_alive.1 ha) (Env.put_alive.1 hb) he) (fun l j b hb => ?_) (fun l j l' j' b hb hb' => ?_) (fun l j b t hb ha => ?_)
  · by_cases e : t = d
    · subst e
      right
      have e1 : (E.put t v sv).a.tmps.getD t undef = v := getD_put_same (by rw [h.size]; exact hd)
      have e2 : ((E.put t v sv).σ (.slot t)).2 = sv := by show (upd _ _ _ _).2 = _; rw [upd_same]
      rw [e1, e2]
      exact hv s
    · left
      refine ⟨?_, getD_put_ne e, fun j => ⟨?_, fun _ _ => rfl⟩⟩
      · show (upd _ _ _ _).2 = _; rw [upd_other (by simpa using e)]
      · simp [Env.put, e]
  · left
    refine ⟨?_, ?_, rfl, rfl, by simp [Env.put], fun _ _ => rfl⟩
    · rw [← hm]; show _ = (upd _ _ _ _).2; rw [upd_other (by simp)]
    · show (upd _ _ _ _).2 = _; rw [upd_other (by simp)]
  · simp only [Env.put] at hb
    split at hb
    · cases hb
    · exact h.owlo l j b hb
  · simp only [Env.put] at hb hb'
    split at hb
    · cases hb
    · split at hb'
      · cases hb'
      · exact h.owinj l j l' j' b hb hb'
  · simp only [Env.put] at hb
    split at hb
    · cases hb
    · exact h.owbx l j b t hb (Env.put_alive.1 ha)

/-! Reading operands -/
/-- A copy: what is owned is named, not copied. -/
def CV.share (l : Loc) (n j : Nat) : CV → CV
  | .sl true _ _ => .al l j n
  | c => c
def shareL (l : Loc) (n : Nat) : Nat → List CV → List CV
  | _, [] => []
  | j, c :: r => c.share l n j :: shareL l n (j + 1) r
def SV.share (l : Loc) (n : Nat) : SV → SV
  | .val ag cs => .val ag (shareL l n 0 cs)
  | sv => sv
def SV.free : SV → Bool
  | .val _ cs => cs.all fun | .sl true _ _ => false | _ => true
  | _ => true
theorem shareL_get {l : Loc} {n : Nat} : ∀ (cs : List CV) (i j : Nat), (shareL l n i cs)[j]? = (cs[j]?).map (CV.share l n (i + j))
  | [], _, _ => rfl
  | c :: r, i, 0 => rfl
  | c :: r, i, j + 1 => by
    have := shareL_get (l := l) (n := n) r (i + 1) j
    simp only [shareL, List.getElem?_cons_succ, this]
    rw [show i + 1 + j = i + (j + 1) by omega]
theorem shareL_length {l : Loc} {n : Nat} : ∀ (cs : List CV) (i : Nat), (shareL l n i cs).length = cs.length
  | [], _ => rfl
  | c :: r, i => by simp [shareL, shareL_length r]
theorem RelCV.share {E : Env} {l : Loc} {j : Nat} {v : Value} {c : CV} (h : RelCV T W E l j v c) (ha : E.at_ l j = some v) (l' : Loc) (j' : Nat) : RelCV T W E l' j' v (c.share l (E.σ l).1 j) := by
  cases c with
  | sl own e rows =>
    cases own with
    | true => exact ⟨Nat.le_refl _, fun _ => ha⟩
    | false => exact h
  | _ => exact h
theorem share_free {l : Loc} {n : Nat} : ∀ (sv : SV), (sv.share l n).free = true
  | .val _ cs => by
    have : ∀ (cs : List CV) (i : Nat), (shareL l n i cs).all (fun | .sl true _ _ => false | _ => true) = true := by
      intro cs
      induction cs with
      | nil => intro i; rfl
      | cons c r ih =>
        intro i
        simp only [shareL, List.all_cons, Bool.and_eq_true]
        refine ⟨?_, ih _⟩
        cases c with
        | sl own e rows => cases own <;> rfl
        | _ => rfl
    exact this cs 0
  | .none => rfl
  | .tup _ => rfl
  | .ptr .. => rfl
  | .rptr _ => rfl
  | .optr .. => rfl
  | .num _ => rfl
/-- Single cells: what a value that is no struct must be. -/
theorem RelCV.cells1 {E : Env} {l : Loc} {j : Nat} {v : Value} {e : TypeId} {rows : List (List D)} (h : RelCV T W E l j v (.sl true e rows)) : v.cells = #[v] := h.1.cells
/-- A value that owns nothing stands anywhere. -/
theorem RelCV.any {E : Env} {l l' : Loc} {j j' : Nat} {v : Value} {c : CV} (h : RelCV T W E l j v c) (hf : ∀ e rows, c ≠ .sl true e rows) : RelCV T W E l' j' v c := by
  cases c with
  | sl own e rows =>
    cases own with
    | true => exact absurd rfl (hf e rows)
    | false => exact h
  | _ => exact h
theorem RelSV.any {E : Env} {l l' : Loc} {v : Value} {sv : SV} (h : RelSV T W E l v sv) (hf : sv.free = true) : RelSV T W E l' v sv := by
  cases sv with
  | val ag cs =>
    have hf' : ∀ c ∈ cs, ∀ e rows, c ≠ .sl true e rows := by
      intro c hc e rows he
      have := List.all_eq_true.1 hf c hc
      rw [he] at this
      cases this
    cases ag with
    | true =>
      obtain ⟨arr, h1, h2, h3⟩ := h
      refine ⟨arr, h1, h2, fun j c hc => ?_⟩
      obtain ⟨u, hu, hr⟩ := h3 j c hc
      exact ⟨u, hu, hr.any (hf' c (List.mem_of_getElem? hc))⟩
    | false =>
      obtain ⟨c, rfl, h2⟩ := h
      exact ⟨c, rfl, h2.any (hf' c (by simp))⟩
  | tup vs =>
    obtain ⟨arr, h1, h2, h3⟩ := h
    refine ⟨arr, h1, h2, fun j p hp => ?_⟩
    obtain ⟨u, hu, hr⟩ := h3 j p hp
    refine ⟨u, hu, fun hp => ?_, fun hp => ?_⟩
    · obtain ⟨brr, e1, e2, e3⟩ := hr.1 hp
      refine ⟨brr, e1, e2, fun i c hc => ?_⟩
      obtain ⟨x, hx, hpl, hr'⟩ := e3 i c hc
      exact ⟨x, hx, hpl, hr'.any (fun e rows he => by rw [he] at hpl; cases hpl)⟩
    · obtain ⟨c, e1, hpl, hr'⟩ := hr.2 hp
      exact ⟨c, e1, hpl, hr'.any (fun e rows he => by rw [he] at hpl; cases hpl)⟩
  | _ => exact h
theorem RelSV.share {E : Env} {l : Loc} {v : Value} {sv : SV} (h : RelSV T W E l v sv) (ha : ∀ j, E.at_ l j = v.cells[j]?) (l' : Loc) : RelSV T W E l' v (sv.share l (E.σ l).1) := by
  cases sv with
  | val ag cs =>
    cases ag with
    | true =>
      obtain ⟨arr, rfl, h2, h3⟩ := h
      refine ⟨arr, rfl, by rw [shareL_length]; exact h2, fun j c hc => ?_⟩
      rw [shareL_get] at hc
      cases hcs : cs[j]? with
      | none => rw [hcs] at hc; cases hc
      | some c0 =>
        rw [hcs] at hc
        obtain rfl := Option.some.inj hc
        obtain ⟨u, hu, hr⟩ := h3 j c0 hcs
        refine ⟨u, hu, ?_⟩
        rw [Nat.zero_add]
        exact hr.share ((ha j).trans hu) l' j
    | false =>
      obtain ⟨c, rfl, h2⟩ := h
      refine ⟨_, rfl, ?_⟩
      cases c with
      | sl own e rows =>
        cases own with
        | false => exact h2
        | true => exact h2.share (by rw [ha, h2.cells1]; rfl) l' 0
      | _ => exact h2
  | tup vs => exact RelSV.any (sv := .tup vs) h rfl
  | _ => exact h
theorem RelSV.step_free {E E' : Env} {l : Loc} {v : Value} {sv : SV} (h : RelSV T W E l v sv) (s : Step E E') (hf : sv.free = true) : RelSV T W E' l v sv :=
  h.step s (fun ag cs j e rows he hc => by
    subst he
    have := List.all_eq_true.1 hf _ (List.mem_of_getElem? hc)
    cases this)

def ofConst : Value → SV
  | .int k n => .val false [.i k n]
  | .bool x => .val false [.b x]
  | .string s => .val false [.s s]
  | _ => .none
def constOk : Value → Bool
  | .int k n => decide (k.min ≤ n) && decide (n ≤ k.max)
  | .string s => decide (s.size ≤ maxLen)
  | _ => true
/-- An operand's value. -/
def rdv (x : Operand) (k : SV → Pg) : Pg :=
  match x with
  | .tmp t => .get (.slot t) fun v => k (v.2.share (.slot t) v.1)
  | .const v => match constOk v with
    | true => k (ofConst v)
    | false => .fail
  | _ => .fail
theorem rdv_sound {E : Env} (h : Rel T W N E) {x : Operand} {k : SV → Pg} {Q : St → Prop} (hw : (rdv x k).wp Q E.σ) (l : Loc) :
    ∃ sv, RelSV T W E l (E.a.eval x) sv ∧ sv.free = true ∧ (k sv).wp Q E.σ := by
  cases x with
  | tmp t => exact ⟨_, (h.slot t).share (fun j => rfl) l, share_free _, hw⟩
  | const v =>
    have hw' : (match constOk v with | true => k (ofConst v) | false => .fail : Pg).wp Q E.σ := hw
    split at hw'
    · rename_i hc
      refine ⟨_, ?_, ?_, hw'⟩
      · cases v with
        | int k n =>
          simp only [constOk, Bool.and_eq_true, decide_eq_true_eq] at hc
          exact ⟨_, rfl, rfl, hc⟩
        | bool x => exact ⟨_, rfl, rfl⟩
        | string s =>
          simp only [constOk, decide_eq_true_eq] at hc
          exact ⟨_, rfl, rfl, hc⟩
        | _ => trivial
      · cases v <;> rfl
    · exact hw'.elim
  | _ => exact hw.elim
end Go.Proofs.YtijnlnmoellbaaaGreat.Ab
