/- The operations that leave the world alone: each abstract step is what the model's operation does. No program in sight. -/
import Derived.Test.YtijnlnmoellbaaaGreatAb4
namespace Go.Proofs.YtijnlnmoellbaaaGreat.Ab
open Go.RowKit
variable {P : Program} {T : Tab} {W : Base} {N : Nat}

theorem RelCV.lay {E E' : Env} {l l' : Loc} {j j' : Nat} {u : Value} {c : CV} (h : RelCV T W E l j u c) (s : Step E E') (hb : E'.bk l' j' = E.bk l j) (hw : E'.w = E.w) : RelCV T W E' l' j' u c := by
  cases c with
  | sl own e rows =>
    cases own with
    | true => exact ⟨h.1.move s.keep s.less (fun _ _ => by rw [hw]), h.2.trans hb.symm⟩
    | false => exact RelCV.step (c := .sl false e rows) (l := l) (j := j) h s (fun _ _ he => by cases he)
  | i k n => exact h
  | b x => exact h
  | s x => exact h
  | al q i n => exact RelCV.step (c := .al q i n) (l := l) (j := j) h s (fun _ _ he => by cases he)
  | dead => trivial
theorem RelSV.lay {E E' : Env} {l l' : Loc} {v : Value} {sv : SV} (h : RelSV T W E l v sv) (s : Step E E') (hb : ∀ j, E'.bk l' j = E.bk l j) (hw : E'.w = E.w) : RelSV T W E' l' v sv := by
  cases sv with
  | val ag cs =>
    cases ag with
    | true =>
      obtain ⟨arr, h1, h2, h3⟩ := h
      refine ⟨arr, h1, h2, fun j c hc => ?_⟩
      obtain ⟨u, hu, hr⟩ := h3 j c hc
      exact ⟨u, hu, hr.lay s (hb j) hw⟩
    | false =>
      obtain ⟨c, rfl, h2⟩ := h
      exact ⟨c, rfl, h2.lay s (hb 0) hw⟩
  | none => exact (RelSV.step_free (sv := .none) h s rfl).any rfl
  | tup vs => exact (RelSV.step_free (sv := .tup vs) h s rfl).any rfl
  | ptr t g off => exact (RelSV.step_free (l := l) (sv := .ptr t g off) h s rfl).any (l := l) rfl
  | rptr cs => exact (RelSV.step_free (l := l) (sv := .rptr cs) h s rfl).any (l := l) rfl
  | optr q j n k c off => exact (RelSV.step_free (l := l) (sv := .optr q j n k c off) h s rfl).any (l := l) rfl
  | num m => trivial

/-- A slot takes a value, with what the ghost place names. -/
def Env.lay (E : Env) (N d : Nat) (v : Value) (sv : SV) : Env :=
  { E with σ := upd E.σ (.slot d) sv, a := E.a.put (some d) v, bk := fun l j => if l = .slot d then E.bk (.slot N) j else if l = .slot N then none else E.bk l j }
theorem Env.lay_alive {E : Env} {N d : Nat} {v : Value} {sv : SV} {t : Nat} : (E.lay N d v sv).alive t ↔ E.alive t := by
  unfold Env.alive Env.lay; simp only [upd_other (show Loc.gen t ≠ Loc.slot d by simp)]
theorem Env.lay_step {E : Env} {d : Nat} {v : Value} {sv : SV} : Step E (E.lay N d v sv) := by
  refine ⟨fun q => ?_, fun t _ => rfl, Keeps.refl _ _, fun b _ hb => ?_⟩
  · by_cases e : q = .slot d
    · subst e
      show (E.σ _).1 ≤ (upd E.σ _ _ _).1 ∧ ((upd E.σ _ _ _).1 = _ → _)
      rw [upd_same]
      exact ⟨by simp, fun h => absurd h (by simp)⟩
    · show (E.σ _).1 ≤ (upd E.σ _ _ _).1 ∧ _
      rw [upd_other e]
      refine ⟨Nat.le_refl _, fun _ i => ?_⟩
      cases q with
      | slot t =>
        have : t ≠ d := fun h => e (by rw [h])
        show ((E.a.put (some d) v).tmps.getD t undef).cells[i]? = _
        rw [getD_put_ne this]; rfl
      | cell t j => exact Env.cellAt_congr (fun m => by show (upd _ _ _ _).2 = _ ↔ _; rw [upd_other (by simp)]) (fun _ _ => rfl)
      | gen t => rfl
  · rcases hb with hb | ⟨t, ht, rfl⟩ | ⟨l, j, hl⟩
    · exact .inl hb
    · exact .inr (.inl ⟨t, Env.lay_alive.1 ht, rfl⟩)
    · refine .inr (.inr ?_)
      simp only [Env.lay] at hl
      split at hl
      · exact ⟨_, j, hl⟩
      · split at hl
        · cases hl
        · exact ⟨l, j, hl⟩
theorem Rel.lay {E : Env} (h : Rel T W N E) {d : Nat} {v : Value} {sv : SV} (hd : d < N) (hv : RelSV T W E (.slot N) v sv) : Rel T W N (E.lay N d v sv) := by
  have s : Step E (E.lay N d v sv) := Env.lay_step
  have hdN : (Loc.slot N) ≠ (Loc.slot d) := by simp; omega
  refine h.next s h.base (by rw [← h.defers]; rfl) (by rw [← h.size]; exact size_put) (fun t => ?_) (fun t m j hm hj => ?_) (fun t ha => h.bxlo t (Env.lay_alive.1 ha)) (fun t t' ha hb he => h.bxinj t t' (Env.lay_alive.1 ha) (Env.lay_alive.1 hb) he) (fun l j b hb => ?_) (fun l j l' j' b hb hb' => ?_) (fun l j b t hb ha => ?_)
  · by_cases e : t = d
    · subst e
      right
      have e1 : (E.lay N t v sv).a.tmps.getD t undef = v := getD_put_same (by rw [h.size]; exact hd)
      have e2 : ((E.lay N t v sv).σ (.slot t)).2 = sv := by show (upd _ _ _ _).2 = _; rw [upd_same]
      rw [e1, e2]
      exact hv.lay s (fun j => by simp [Env.lay]) rfl
    · by_cases eN : t = N
      · subst eN
        right
        have e2 : ((E.lay t d v sv).σ (.slot t)).2 = (E.σ (.slot t)).2 := by show (upd _ _ _ _).2 = _; rw [upd_other (by simpa using e)]
        have e1 : (E.lay t d v sv).a.tmps.getD t undef = E.a.tmps.getD t undef := getD_put_ne e
        rw [e1, e2]
        exact (h.slot t).step s (fun ag cs j e rows he hc => (h.ghost he hc).elim)
      · left
        refine ⟨?_, getD_put_ne e, fun j => ⟨?_, fun _ _ => rfl⟩⟩
        · show (upd _ _ _ _).2 = _; rw [upd_other (by simpa using e)]
        · simp [Env.lay, e, eN]
  · left
    refine ⟨?_, ?_, rfl, rfl, by simp [Env.lay], fun _ _ => rfl⟩
    · rw [← hm]; show _ = (upd _ _ _ _).2; rw [upd_other (by simp)]
    · show (upd _ _ _ _).2 = _; rw [upd_other (by simp)]
  · simp only [Env.lay] at hb
    split at hb
    · exact h.owlo _ j b hb
    · split at hb
      · cases hb
      · exact h.owlo l j b hb
  · simp only [Env.lay] at hb hb'
    split at hb
    · rename_i g1
      split at hb'
      · rename_i g2
        exact ⟨g1.trans g2.symm, (h.owinj _ j _ j' b hb hb').2⟩
      · split at hb'
        · cases hb'
        · rename_i n2
          exact absurd (h.owinj _ j l' j' b hb hb').1.symm n2
    · split at hb
      · cases hb
      · rename_i n1
        split at hb'
        · exact absurd (h.owinj l j _ j' b hb hb').1 n1
        · split at hb'
          · cases hb'
          · exact h.owinj l j l' j' b hb hb'
  · simp only [Env.lay] at hb
    split at hb
    · exact h.owbx _ j b t hb (Env.lay_alive.1 ha)
    · split at hb
      · cases hb
      · exact h.owbx l j b t hb (Env.lay_alive.1 ha)

/-! What is known of the types -/
def zeroV : CT → Value
  | .i k => .int k 0
  | .b => .bool false
  | .s => .string ByteArray.empty
  | .l _ => .slice none 0 0
def valOf : CT → D → Value
  | .i k, .i n => .int k n
  | .b, .b x => .bool x
  | .s, .s x => .string x
  | _, _ => undef
def valsOf : List CT → List D → List Value
  | ct :: r, d :: ds => valOf ct d :: valsOf r ds
  | _, _ => []
def eqD : CT → D → D → Bool
  | .i _, .i a, .i b => a == b
  | .b, .b a, .b b => a == b
  | .s, .s a, .s b => a.toList == b.toList
  | _, _, _ => false
def eqDs : List CT → List D → List D → Bool
  | ct :: r, a :: as, b :: bs => eqD ct a b && eqDs r as bs
  | _, _, _ => true
def fitD : CT → D → Bool
  | .i _, .i _ => true
  | .b, .b _ => true
  | .s, .s _ => true
  | _, _ => false
def fitDs : List CT → List D → Bool
  | ct :: r, d :: ds => fitD ct d && fitDs r ds
  | [], [] => true
  | _, _ => false
/-- What '==' says of two structures of plain cells. -/
def EqFact (P : Program) (t : TypeId) (cts : List CT) : Prop :=
  P.eqGuardType P.depth t = false ∧ ∀ (w : World) (a b : List D), fitDs cts a = true → fitDs cts b = true → (Op.equalIn 10000 t (.agg (valsOf cts a).toArray) (.agg (valsOf cts b).toArray)).run P w = .ok (eqDs cts a b) w
structure TyOk (P : Program) (T : Tab) (t : TypeId) (ty : Ty) : Prop where
  info : ∃ i, P.info? t = some i ∧ i.size = ty.cts.length ∧ i.bytes = ty.bytes ∧ i.zero = some (if ty.agg then .agg (ty.cts.map zeroV).toArray else (ty.cts.map zeroV).headD undef)
  elems : ∀ e, CT.l e ∈ ty.cts → (T e).isSome
  str : ty.agg = true → ∃ fs, P.underlying t = some (.struct fs) ∧ fs.size = ty.offs.length ∧ ∀ (f off sz : Nat), ty.offs[f]? = some (off, sz) → ∃ fd, fs[f]? = some fd ∧ fd.offset = off ∧ P.cellsOf fd.type = sz ∧ sz ≠ 0
  eqf : ty.eq = true → EqFact P t ty.cts
  one : ty.agg = false → ∃ c, ty.cts = [c] ∧ match c with
    | .i k => P.underlying t = some (.int k)
    | .b => P.underlying t = some .bool
    | .s => P.underlying t = some .string
    | .l e => P.underlying t = some (.slice e)
def TabOk (P : Program) (T : Tab) : Prop := ∀ t ty, T t = some ty → TyOk P T t ty
theorem TyOk.cellsOf {t : TypeId} {ty : Ty} (h : TyOk P T t ty) : P.cellsOf t = ty.cts.length := by
  obtain ⟨i, h1, h2, _⟩ := h.info
  simp [Program.cellsOf, h1, h2]
theorem TyOk.size {t : TypeId} {ty : Ty} (h : TyOk P T t ty) : (P.info? t).map (·.size) = some ty.cts.length := by
  obtain ⟨i, h1, h2, _⟩ := h.info
  simp [h1, h2]

/-! The end of an operation that yields a value -/
def dstSet (N : Nat) (o : Oper) (sv : SV) : Pg :=
  match o.dst with
  | some d => .lt d N (.setF 1 (.slot d) sv .done)
  | none => .done
/-- What is asked of an operation's abstract step. -/
def OpOk (P : Program) (T : Tab) (W : Base) (N : Nat) (o : Oper) (p : Pg) : Prop :=
  ∀ (E : Env) (Q : St → Prop) (K : Act → World → Prop) (Qx : Exit → Act → World → Prop), Rel T W N E → p.wp Q E.σ → (∀ E', Rel T W N E' → Q E'.σ → K E'.a E'.w) → o.wp P E.a E.w K Qx
theorem sound_value {E : Env} {o : Oper} {Q : St → Prop} {K : Act → World → Prop} {Qx : Exit → Act → World → Prop} {v : Value} {sv : SV} (h : Rel T W N E)
    (hrun : (execOp E.a.eval o).run P E.w = .ok (.value v) E.w) (hv : RelSV T W E (.slot N) v sv) (hw : (dstSet N o sv).wp Q E.σ) (hK : ∀ E', Rel T W N E' → Q E'.σ → K E'.a E'.w) : o.wp P E.a E.w K Qx := by
  unfold Oper.wp
  rw [hrun, Oper.upon_value]
  unfold dstSet at hw
  simp only [Pg.setF_eq] at hw
  split at hw
  · rename_i d hd
    rw [hd]
    exact hK (E.lay N d v sv) (h.lay (Pg.lt_wp hw).1 hv) (Pg.lt_wp hw).2
  · rename_i hd
    rw [hd]
    exact hK E h hw
theorem Same.run {E E' : Env} (s : Same E E') {o : Oper} {K : Act → World → Prop} {Qx : Exit → Act → World → Prop} (h : o.wp P E'.a E'.w K Qx) : o.wp P E.a E.w K Qx := by
  rw [← s.a, ← s.w]; exact h

def stepMove (N : Nat) (o : Oper) (x : Operand) : Pg := rdv x fun sv => dstSet N o sv
theorem move_ok {o : Oper} {x : Operand} (ho : o.op = .move x) : OpOk P T W N o (stepMove N o x) := by
  intro E Q K Qx h hw hK
  obtain ⟨sv, h1, _, h3⟩ := rdv_sound h hw (.slot N)
  exact sound_value h (by simp [execOp, ho]) h1 h3 hK

/-- The cells of a value, and what lies behind them. -/
theorem RelSV.cellsR {E : Env} {l : Loc} {v : Value} {cs : List CV} (h : RelSV T W E l v (.val true cs)) : ∃ us : List Value, v = .agg us.toArray ∧ CellsR T W E l 0 cs us := by
  obtain ⟨arr, h1, h2, h3⟩ := h
  refine ⟨arr.toList, by simp [h1], by simp [h2], fun i c u hc hu => ?_⟩
  obtain ⟨u', hu', hr⟩ := h3 i c hc
  have : arr[i]? = some u := by simpa using hu
  rw [this] at hu'
  obtain rfl := Option.some.inj hu'
  rw [Nat.zero_add]; exact hr
theorem CellsR.relSV {E : Env} {l : Loc} {cs : List CV} {us : List Value} (h : CellsR T W E l 0 cs us) : RelSV T W E l (.agg us.toArray) (.val true cs) := by
  refine ⟨us.toArray, rfl, by simp [h.1], fun j c hc => ?_⟩
  have hj : j < us.length := by rw [← h.1]; exact (List.getElem?_eq_some_iff.1 hc).1
  have := h.2 j c us[j] hc (List.getElem?_eq_getElem hj)
  rw [Nat.zero_add] at this
  exact ⟨us[j], by simp [hj], this⟩
def SV.cellsFree : SV → Bool
  | .val _ cs => cs.all CV.free
  | _ => true
theorem cellsFree_of_free {sv : SV} (h : sv.free = true) : sv.cellsFree = true := by
  cases sv with
  | val ag cs =>
    refine List.all_eq_true.2 fun c hc => ?_
    have := List.all_eq_true.1 h c hc
    cases c with
    | sl own e rows => cases own <;> first | rfl | exact this
    | _ => rfl
  | _ => rfl
/-- Into a variable: what is owned comes along. -/
def stepAssign (N : Nat) (o : Oper) (x : Operand) : Pg :=
  rdv x fun sv => match sv with
    | .val ag cs => movs cs fun cs' => dstSet N o (.val ag cs')
    | sv => dstSet N o sv
theorem assign_ok {o : Oper} {x : Operand} (ho : o.op = .assign x) : OpOk P T W N o (stepAssign N o x) := by
  intro E Q K Qx h hw hK
  obtain ⟨sv, h1, h2, h3⟩ := rdv_sound h hw (.slot N)
  have hrun : (execOp E.a.eval o).run P E.w = .ok (.value (E.a.eval x)) E.w := by simp [execOp, ho]
  cases sv with
  | val ag cs =>
    have hf : cs.all CV.free = true := cellsFree_of_free h2
    cases ag with
    | true =>
      obtain ⟨us, e1, e2⟩ := h1.cellsR
      obtain ⟨E', cs', r1, s1, c1, t1, _, w1⟩ := movs_sound h e2 hf h3
      refine s1.run (sound_value r1 (v := E.a.eval x) (by rw [s1.a, s1.w]; exact hrun) ?_ w1 hK)
      rw [e1]; exact c1.relSV
    | false =>
      obtain ⟨c, rfl, e2⟩ := h1
      have hc : CellsR T W E (.slot N) 0 [c] [E.a.eval x] := ⟨rfl, fun i c0 u0 hc0 hu0 => by
        cases i with
        | zero =>
          obtain rfl := Option.some.inj hc0
          obtain rfl := Option.some.inj hu0
          exact e2
        | succ i => cases hc0⟩
      obtain ⟨E', cs', r1, s1, c1, t1, _, w1⟩ := movs_sound h hc hf h3
      refine s1.run (sound_value r1 (v := E.a.eval x) (by rw [s1.a, s1.w]; exact hrun) ?_ w1 hK)
      have hl := c1.1
      match cs', hl with
      | [c'], _ => exact ⟨c', rfl, c1.2 0 c' _ rfl rfl⟩
  | none => exact sound_value h hrun h1 h3 hK
  | tup vs => exact sound_value h hrun h1 h3 hK
  | ptr t g off => exact sound_value h hrun h1 h3 hK
  | rptr cs => exact sound_value h hrun h1 h3 hK
  | optr q j n k c off => exact sound_value h hrun h1 h3 hK
  | num m => exact sound_value h hrun h1 h3 hK

/-- A nil slice into a variable: it owns nothing, and grows by append. -/
def stepNil (T : Tab) (N : Nat) (o : Oper) : Pg :=
  match T o.type with
  | some ty => match ty.cts with
    | [.l e] => match T e with
      | some _ => dstSet N o (.val false [.sl true e []])
      | none => .fail
    | _ => .fail
  | none => .fail
theorem own_nil {E : Env} {e : TypeId} {te : Ty} (he : T e = some te) : Own T E.w E.X 0 e (.slice none 0 0) [] :=
  ⟨te, [], he, World.ownsRow_nil _ _ _ _, fun k row h => by simp at h, fun k j ct d row h => by simp at h⟩
theorem nil_ok {o : Oper} (ho : o.op = .assign (.const (.slice none 0 0))) : OpOk P T W N o (stepNil T N o) := by
  intro E Q K Qx h hw hK
  unfold stepNil at hw
  split at hw
  · rename_i ty hty
    split at hw
    · rename_i e hc
      split at hw
      · rename_i te hte
        have hN : ∀ j b, E.bk (.slot N) j = some b → True := fun _ _ _ => trivial
        unfold Oper.wp
        rw [show (execOp E.a.eval o).run P E.w = .ok (.value (.slice none 0 0)) E.w by simp [execOp, ho, Act.eval], Oper.upon_value]
        unfold dstSet at hw
        simp only [Pg.setF_eq] at hw
        split at hw
        · rename_i d hd
          rw [hd]
          exact hK (E.put d (.slice none 0 0) (.val false [.sl true e []])) (h.put (Pg.lt_wp hw).1 fun s => ⟨_, rfl, own_nil hte, by simp [Env.put, Value.ownBlock]⟩) (Pg.lt_wp hw).2
        · rename_i hd
          rw [hd]
          exact hK E h hw
      · exact hw.elim
    · exact hw.elim
  · exact hw.elim
end Go.Proofs.YtijnlnmoellbaaaGreat.Ab
