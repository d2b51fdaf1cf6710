/- Calls of functions whose contracts are known over data. No program in sight. -/
import Derived.Test.YtijnlnmoellbaaaGreatAb13b
namespace Go.Proofs.YtijnlnmoellbaaaGreat.Ab
open Go.RowKit
variable {P : Program} {T : Tab} {W : Base} {N : Nat}

/-- What a function does, over data: what it asks; what it returns; whether its first argument points to a variable that is lent to it, and what that variable's cells are afterwards. -/
structure FSpec where
  pre : List SV → Prop
  res : List SV → SV
  bx : Bool := false
  upd : List SV → List CV := fun _ => []

/-- A handed-in cell: data, in blocks outside X. -/
def ArgC (T : Tab) (w : World) (X : Nat → Prop) (v : Value) : CV → Prop
  | .i k n => v = .int k n ∧ inK k n
  | .b x => v = .bool x
  | .s x => v = .string x ∧ x.size ≤ maxLen
  | .sl false e rows => RdR T w X (.l e) v (.l rows)
  | _ => False
def ArgR (T : Tab) (w : World) (X : Nat → Prop) (v : Value) : SV → Prop
  | .val true cs => ∃ us : List Value, v = .agg us.toArray ∧ cs.length = us.length ∧ ∀ (i : Nat) c u, cs[i]? = some c → us[i]? = some u → ArgC T w X u c
  | .val false cs => ∃ c, cs = [c] ∧ ArgC T w X v c
  | _ => False
def ArgsR (T : Tab) (w : World) (X : Nat → Prop) (vals : List Value) (args : List SV) : Prop :=
  args.length = vals.length ∧ ∀ (i : Nat) a v, args[i]? = some a → vals[i]? = some v → ArgR T w X v a
/-- A result's cell: data outside X, or a slice in blocks from B on, of which bk names the block. -/
def ResC (T : Tab) (w : World) (X : Nat → Prop) (B : Nat) (bk : Nat → Option Nat) (j : Nat) (v : Value) : CV → Prop
  | .sl true e rows => Own T w X B e v rows ∧ v.ownBlock = bk j
  | c => ArgC T w X v c
def ResR (T : Tab) (w : World) (X : Nat → Prop) (B : Nat) (bk : Nat → Option Nat) (v : Value) : SV → Prop
  | .val true cs => ∃ us : List Value, v = .agg us.toArray ∧ cs.length = us.length ∧ ∀ (i : Nat) c u, cs[i]? = some c → us[i]? = some u → ResC T w X B bk i u c
  | .val false cs => ∃ c, cs = [c] ∧ ResC T w X B bk 0 v c
  | .tup vs => ∃ arr : List Value, v = .tuple arr.toArray ∧ vs.length = arr.length ∧ ∀ (j : Nat) p u, vs[j]? = some p → arr[j]? = some u → ArgR T w X u (.val p.1 p.2)
  | _ => False
/-- Cells of a lent variable: data outside X, or slices of which ob names the blocks. -/
def BoxR (T : Tab) (w : World) (X : Nat → Prop) (b : Nat) (ob : Nat → Option Nat) (cs : List CV) : Prop :=
  ∀ (j : Nat) c, cs[j]? = some c → ∃ v, w.cell? ⟨b, j, none⟩ = some v ∧ w.frozen? ⟨b, j, none⟩ = false ∧ ResC T w X 0 ob j v c
/-- A lent variable's blocks. -/
def boxB (b : Nat) (ob : Nat → Option Nat) (x : Nat) : Prop := x = b ∨ ∃ j, ob j = some x
/-- How a call ends that a variable was lent to. -/
structure BoxEnd (T : Tab) (w w' : World) (X : Nat → Prop) (b : Nat) (ob bk ob' : Nat → Option Nat) (v : Value) (r : SV) (cs' : List CV) : Prop where
  os : w'.os = w.os
  tape : w'.tape = w.tape
  output : w'.output = w.output
  size : w.heap.size ≤ w'.heap.size
  block : ∀ k, k < w.heap.size → ¬ boxB b ob k → w'.heap[k]? = w.heap[k]?
  res : ResR T w' (fun x => X x ∨ boxB b ob' x ∨ ∃ j, bk j = some x) 0 bk v r
  box : BoxR T w' (fun x => X x ∨ boxB b ob' x ∨ ∃ j, bk j = some x) b ob' cs'
  bkl : ∀ j x, bk j = some x → (w.heap.size ≤ x ∨ ∃ i, ob i = some x) ∧ x < w'.heap.size
  obl : ∀ j x, ob' j = some x → (w.heap.size ≤ x ∨ ∃ i, ob i = some x) ∧ x < w'.heap.size
  bki : ∀ j j' x, bk j = some x → bk j' = some x → j = j'
  obi : ∀ j j' x, ob' j = some x → ob' j' = some x → j = j'
  bko : ∀ j i x, bk j = some x → ob' i = some x → False
/-- A function meets its description. -/
structure FOk (P : Program) (T : Tab) (f : FuncId) (s : FSpec) : Prop where
  call : ∀ args w, (callFunc f args).run P w = .ok (.enter f args) w
  okb : s.bx = true → ∀ (w : World) (X : Nat → Prop) (b : Nat) (ob : Nat → Option Nat) (cs : List CV) (args : List SV) (vals : List Value), (∀ x, X x → x < w.heap.size) → b < w.heap.size → ¬ X b →
    (∀ j x, ob j = some x → x < w.heap.size ∧ ¬ X x ∧ x ≠ b) → (∀ j j' x, ob j = some x → ob j' = some x → j = j') → BoxR T w (fun x => X x ∨ boxB b ob x) b ob cs → ArgsR T w (fun x => X x ∨ boxB b ob x) vals args → s.pre (.tup [(true, cs)] :: args) →
    Calls P f (Value.pointer (some ⟨b, 0, none⟩) :: vals).toArray w fun e w' => ∃ v bk ob', e = .returned v ∧ BoxEnd T w w' X b ob bk ob' v (s.res (.tup [(true, cs)] :: args)) (s.upd (.tup [(true, cs)] :: args))
  ok : s.bx = false → ∀ (w : World) (X : Nat → Prop) (args : List SV) (vals : List Value), (∀ b, X b → b < w.heap.size) → ArgsR T w X vals args → s.pre args →
    Calls P f vals.toArray w fun e w' => ∃ v bk, e = .returned v ∧ Below w.heap.size w w' ∧ ResR T w' (fun b => X b ∨ ∃ j, bk j = some b) 0 bk v (s.res args) ∧
      (∀ j b, bk j = some b → w.heap.size ≤ b ∧ b < w'.heap.size) ∧ ∀ j j' b, bk j = some b → bk j' = some b → j = j'
/-- Nothing of the result can lead into what was handed in. -/
def flatT (T : Tab) (e : TypeId) : Bool :=
  match T e with
  | some te => te.cts.all fun | .l _ => false | _ => true
  | none => false
def CV.noRef (T : Tab) : CV → Bool
  | .sl true e _ => flatT T e
  | .sl false .. => false
  | _ => true
def SV.noRef (T : Tab) : SV → Bool
  | .val _ cs => cs.all (CV.noRef T)
  | .tup vs => vs.all fun p => p.2.all (CV.noRef T)
  | _ => true

/-- Operands are lent: read, not shared. -/
def lend1 (c : CV) (k : CV → Pg) : Pg :=
  match c with
  | .al q i n => look q i n fun _ _ _ e rows => k (.sl false e rows)
  | .dead => .fail
  | c => k c
def lends : List CV → (List CV → Pg) → Pg
  | [], k => k []
  | c :: r, k => lend1 c fun c' => lends r fun r' => k (c' :: r')
def argsGo (f : List CV → (List CV → Pg) → Pg) : List Operand → (List SV → Pg) → Pg
  | [], k => k []
  | x :: r, k => rdv x fun sv => match sv with
    | .val ag cs => f cs fun cs' => (SV.val ag cs').force fun a' => argsGo f r fun r' => k (a' :: r')
    | _ => .fail
def resSet (N : Nat) (o : Oper) (sv : SV) : Pg :=
  match o.dst with
  | some d => .lt d N (.setF 1 (.slot d) sv .done)
  | none => .fail
def stepCall (T : Tab) (N : Nat) (o : Oper) (s : FSpec) (xs : List Operand) : Pg :=
  argsGo lends xs fun args => match (s.res args).noRef T with
    | true => .chk (s.pre args) (resSet N o (s.res args))
    | false => argsGo pubs xs fun args => .chk (s.pre args) (resSet N o (s.res args))

/-- A variable's cells as they are. -/
def rawCells (t : Nat) : Nat → Nat → (List CV → Pg) → Pg
  | _, 0, k => k []
  | p, n + 1, k => .get (.cell t p) fun v => match v.2 with
    | .val false [c] => match c.set with
      | true => rawCells t (p + 1) n fun r => k (c :: r)
      | false => .fail
    | _ => .fail
def boxSet (N : Nat) (o : Oper) (t : Nat) (cs : List CV) (r : SV) : Pg :=
  setBox t 0 cs (match o.dst with
    | some d => .lt d N (.setF 1 (.slot d) r .done)
    | none => .done)
/-- A call that a variable is lent to. -/
def stepCallB (N : Nat) (o : Oper) (s : FSpec) : List Operand → Pg
  | x :: xs => argsGo pubs xs fun args => rdv x fun sv => match sv with
    | .ptr t g 0 => .get (.gen t) fun v => if v.1 = g then match v.2 with
        | .num m => rawCells t 0 m fun cs => .chk (s.pre (.tup [(true, cs)] :: args)) (.chk ((s.upd (.tup [(true, cs)] :: args)).length = m) (boxSet N o t (s.upd (.tup [(true, cs)] :: args)) (s.res (.tup [(true, cs)] :: args))))
        | _ => .fail
      else .fail
    | _ => .fail
  | [] => .fail
def stepCallAny (T : Tab) (N : Nat) (o : Oper) (s : FSpec) (xs : List Operand) : Pg :=
  match s.bx with
  | false => stepCall T N o s xs
  | true => stepCallB N o s xs

/-- Blocks that only the lent operands lead to. -/
def XL (E : Env) (lent : Nat → Prop) (b : Nat) : Prop := E.X b ∧ ¬ lent b
theorem RelCV.arg {E : Env} {l : Loc} {j : Nat} {v : Value} {c : CV} (h : RelCV T W E l j v c) (hs : c.set = true) (hf : c.free = true) : ArgC T E.w E.X v c := by
  cases c with
  | sl own e rows =>
    cases own with
    | true => cases hf
    | false => exact h
  | al q i n => cases hs
  | dead => cases hs
  | _ => exact h
theorem ArgC.less {w : World} {X X' : Nat → Prop} {v : Value} {c : CV} (h : ArgC T w X v c) (hx : ∀ b, b < w.heap.size → X' b → X b) : ArgC T w X' v c := by
  cases c with
  | sl own e rows =>
    cases own with
    | true => exact h
    | false => exact RdR.move (h : RdR T w X _ _ _) ⟨Nat.le_refl _, fun _ _ _ => rfl⟩ hx
  | _ => exact h
theorem ArgR.less {w : World} {X X' : Nat → Prop} {v : Value} {a : SV} (h : ArgR T w X v a) (hx : ∀ b, b < w.heap.size → X' b → X b) : ArgR T w X' v a := by
  cases a with
  | val ag cs =>
    cases ag with
    | true =>
      obtain ⟨us, h1, h2, h3⟩ := h
      exact ⟨us, h1, h2, fun i c u hc hu => (h3 i c u hc hu).less hx⟩
    | false =>
      obtain ⟨c, h1, h2⟩ := h
      exact ⟨c, h1, h2.less hx⟩
  | _ => exact h
theorem ArgsR.less {w : World} {X X' : Nat → Prop} {vs : List Value} {as : List SV} (h : ArgsR T w X vs as) (hx : ∀ b, b < w.heap.size → X' b → X b) : ArgsR T w X' vs as :=
  ⟨h.1, fun i a v ha hv => (h.2 i a v ha hv).less hx⟩
theorem ArgsR.cons {w : World} {X : Nat → Prop} {vs : List Value} {as : List SV} {v : Value} {a : SV} (h : ArgR T w X v a) (hs : ArgsR T w X vs as) : ArgsR T w X (v :: vs) (a :: as) :=
  ⟨by simp [hs.1], fun i a' v' ha hv => by
    cases i with
    | zero =>
      obtain rfl := Option.some.inj ha
      obtain rfl := Option.some.inj hv
      exact h
    | succ i => exact hs.2 i a' v' (by simpa using ha) (by simpa using hv)⟩
theorem ArgsR.nil {w : World} {X : Nat → Prop} : ArgsR T w X [] [] := ⟨rfl, fun i a v h => by simp at h⟩

theorem lend1_sound {E : Env} (h : Rel T W N E) {c : CV} {k : CV → Pg} {Q : St → Prop} {l : Loc} {j : Nat} {u : Value} (hc : RelCV T W E l j u c) (hf : c.free = true) (hw : (lend1 c k).wp Q E.σ) :
    ∃ c' lent, ArgC T E.w (XL E lent) u c' ∧ (k c').wp Q E.σ := by
  have triv : ∀ b, b < E.w.heap.size → XL E (fun _ => False) b → E.X b := fun _ _ h => h.1
  cases c with
  | al q i n =>
    obtain ⟨ag, cs, o, e, rows, h1, h2, h3, h4, h5⟩ := look_sound h (show (look q i n _).wp Q E.σ from hw) hc
    cases o with
    | true =>
      refine ⟨.sl false e rows, fun b => u.ownBlock = some b, ?_, h5⟩
      exact Own.shared h4.1 (fun b _ hb => hb.1) (fun b hb hx => hx.2 hb)
    | false => exact ⟨.sl false e rows, fun _ => False, RdR.move (h4 : RdR T E.w E.X _ _ _) (Keeps.refl _ _) triv, h5⟩
  | dead => exact hw.elim
  | sl own e rows =>
    cases own with
    | true => cases hf
    | false => exact ⟨.sl false e rows, fun _ => False, RdR.move (hc : RdR T E.w E.X _ _ _) (Keeps.refl _ _) triv, hw⟩
  | i k' n => exact ⟨.i k' n, fun _ => False, hc, hw⟩
  | b x => exact ⟨.b x, fun _ => False, hc, hw⟩
  | s x => exact ⟨.s x, fun _ => False, hc, hw⟩
theorem XL_or {E : Env} {A B : Nat → Prop} : (∀ b, b < E.w.heap.size → XL E (fun b => A b ∨ B b) b → XL E A b) ∧ (∀ b, b < E.w.heap.size → XL E (fun b => A b ∨ B b) b → XL E B b) :=
  ⟨fun _ _ h => ⟨h.1, fun a => h.2 (.inl a)⟩, fun _ _ h => ⟨h.1, fun a => h.2 (.inr a)⟩⟩
theorem lends_sound {E : Env} (h : Rel T W N E) : ∀ {cs : List CV} {k : List CV → Pg} {Q : St → Prop} {l : Loc} {j : Nat} {us : List Value}, CellsR T W E l j cs us → cs.all CV.free = true → (lends cs k).wp Q E.σ →
    ∃ cs' lent, cs'.length = us.length ∧ (∀ (i : Nat) c u, cs'[i]? = some c → us[i]? = some u → ArgC T E.w (XL E lent) u c) ∧ (k cs').wp Q E.σ
  | [], k, Q, l, j, us, hc, _, hw => ⟨[], fun _ => False, hc.1, fun i c u h => by simp at h, hw⟩
  | c :: r, k, Q, l, j, us, hc, hf, hw => by
    cases us with
    | nil => exact absurd hc.1 (by simp)
    | cons u us =>
      simp only [List.all_cons, Bool.and_eq_true] at hf
      obtain ⟨c', A, a1, w1⟩ := lend1_sound h (hc.2 0 c u rfl rfl) hf.1 hw
      have hr : CellsR T W E l (j + 1) r us := by
        refine ⟨by simpa using hc.1, fun i c0 u0 hc0 hu0 => ?_⟩
        have := hc.2 (i + 1) c0 u0 (by simpa using hc0) (by simpa using hu0)
        rw [show j + 1 + i = j + (i + 1) by omega]
        exact this
      obtain ⟨r', B, b1, b2, w2⟩ := lends_sound h hr hf.2 w1
      refine ⟨c' :: r', fun b => A b ∨ B b, by simp [b1], fun i c0 u0 hc0 hu0 => ?_, w2⟩
      cases i with
      | zero =>
        obtain rfl := Option.some.inj hc0
        obtain rfl := Option.some.inj hu0
        exact a1.less XL_or.1
      | succ i => exact (b2 i c0 u0 (by simpa using hc0) (by simpa using hu0)).less XL_or.2
/-- An operand's cells, for the one way and the other. -/
theorem RelSV.operand {E : Env} {l : Loc} {v : Value} {ag : Bool} {cs : List CV} (h : RelSV T W E l v (.val ag cs)) : ∃ us : List Value, CellsR T W E l 0 cs us ∧ (ag = true → v = .agg us.toArray) ∧ (ag = false → us = [v] ∧ ∃ c, cs = [c]) := by
  cases ag with
  | true =>
    obtain ⟨us, rfl, h2⟩ := h.cellsR
    exact ⟨us, h2, fun _ => rfl, fun h => by cases h⟩
  | false =>
    obtain ⟨c, rfl, h2⟩ := h
    refine ⟨[v], ⟨rfl, fun i c' u hc hu => ?_⟩, (fun h => by cases h), fun _ => ⟨rfl, c, rfl⟩⟩
    cases i with
    | zero =>
      obtain rfl := Option.some.inj hc
      obtain rfl := Option.some.inj hu
      exact h2
    | succ i => cases hc
theorem argR_of {w : World} {X : Nat → Prop} {ag : Bool} {cs : List CV} {us : List Value} {v : Value} (hl : cs.length = us.length) (ht : ag = true → v = .agg us.toArray) (hf : ag = false → us = [v])
    (h : ∀ (i : Nat) c u, cs[i]? = some c → us[i]? = some u → ArgC T w X u c) : ArgR T w X v (.val ag cs) := by
  cases ag with
  | true => exact ⟨us, ht rfl, hl, h⟩
  | false =>
    have hu := hf rfl
    subst hu
    match cs, hl with
    | [c], _ => exact ⟨c, rfl, h 0 c v rfl rfl⟩
theorem argsLend_sound {E : Env} (h : Rel T W N E) : ∀ {xs : List Operand} {k : List SV → Pg} {Q : St → Prop}, (argsGo lends xs k).wp Q E.σ →
    ∃ args lent, ArgsR T E.w (XL E lent) (xs.map E.a.eval) args ∧ (k args).wp Q E.σ
  | [], k, Q, hw => ⟨[], fun _ => False, .nil, hw⟩
  | x :: r, k, Q, hw => by
    simp only [argsGo] at hw
    obtain ⟨sv, h1, f1, h3⟩ := rdv_sound h hw (.slot N)
    split at h3
    · rename_i ag cs
      obtain ⟨us, u1, u2, u3⟩ := h1.operand
      obtain ⟨cs', A, a1, a2, w1⟩ := lends_sound h u1 (cellsFree_of_free f1) h3
      rw [SV.force_eq] at w1
      obtain ⟨args, B, b1, w2⟩ := argsLend_sound h w1
      exact ⟨_, fun b => A b ∨ B b, .cons ((argR_of a1 u2 (fun h => (u3 h).1) a2).less XL_or.1) (b1.less XL_or.2), w2⟩
    · exact h3.elim
theorem argsPub_sound : ∀ {xs : List Operand} {E : Env} {k : List SV → Pg} {Q : St → Prop}, Rel T W N E → (argsGo pubs xs k).wp Q E.σ →
    ∃ E' args, Rel T W N E' ∧ Same E E' ∧ ArgsR T E'.w E'.X (xs.map E.a.eval) args ∧ (k args).wp Q E'.σ
  | [], E, k, Q, h, hw => ⟨E, [], h, .refl E, .nil, hw⟩
  | x :: r, E, k, Q, h, hw => by
    simp only [argsGo] at hw
    obtain ⟨sv, h1, f1, h3⟩ := rdv_sound h hw (.slot N)
    split at h3
    · rename_i ag cs
      obtain ⟨us, u1, u2, u3⟩ := h1.operand
      obtain ⟨E1, cs', r1, s1, c1, t1, g1, w1⟩ := pubs_sound h u1 (cellsFree_of_free f1) h3
      rw [SV.force_eq] at w1
      obtain ⟨E2, args, r2, s2, b1, w2⟩ := argsPub_sound r1 w1
      refine ⟨E2, _, r2, s1.trans s2, ?_, w2⟩
      rw [s1.a] at b1
      refine .cons ?_ b1
      have hA : ArgR T E1.w E1.X (E.a.eval x) (.val ag cs') := argR_of c1.1 u2 (fun h => (u3 h).1) (fun i c u hc hu => (c1.2 i c u hc hu).arg (List.all_eq_true.1 t1 c (List.mem_of_getElem? hc)) (List.all_eq_true.1 g1 c (List.mem_of_getElem? hc)))
      rw [s2.w]
      exact hA.less (fun b hb hx => s2.step.less b hb hx)
    · exact h3.elim
end Go.Proofs.YtijnlnmoellbaaaGreat.Ab
