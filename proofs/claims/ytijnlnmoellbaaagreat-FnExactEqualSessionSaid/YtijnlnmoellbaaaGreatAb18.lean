/- From what is asked of a body to the contract of the function. No program in sight. -/
import Derived.Test.YtijnlnmoellbaaaGreatAb17
namespace Go.Proofs.YtijnlnmoellbaaaGreat.Ab
open Go.RowKit
variable {P : Program} {T : Tab} {W : Base} {N : Nat}

def init (args : List SV) : St := fun l => match l with
  | .slot t => (0, args.getD t .none)
  | _ => (0, .none)

/-- A result's value. -/
def rdRes (T : Tab) (r : ResultVar) (k : SV → Pg) : Pg :=
  match r with
  | .tmp t => rdv (.tmp t) k
  | .cell a t => match T t with
    | some ty => rdv (.tmp a) fun sv => match sv with
      | .ptr b g p => .get (.gen b) fun v => if v.1 = g then match v.2 with
          | .num m => if p + ty.cts.length ≤ m then getCells b p ty.cts.length fun cs => k (.val ty.agg cs) else .fail
          | _ => .fail
        else .fail
      | _ => .fail
    | none => .fail
def resVal (r : ResultVar) (tmps : Array Value) : Sem Value :=
  match r with
  | .tmp t => pure (tmps.getD t undef)
  | .cell a t => do loadVar t (← asAddr (tmps.getD a undef))
theorem value_inv {s : Sem Value} {w : World} {v : Value} (h : (do pure (Next.value (← s)) : Sem Next).run P w = .ok (.value v) w) : s.run P w = .ok v w := by
  rw [Sem.run_bind] at h
  cases hs : s.run P w with
  | ok u w' =>
    rw [hs] at h
    simp only [Result.andThen_ok, Sem.run_pure, Result.ok.injEq, Next.value.injEq] at h
    rw [h.1, h.2]
  | halt x w' => rw [hs] at h; cases h
theorem rdRes_sound (hT : TabOk P T) {E : Env} (h : Rel T W N E) {r : ResultVar} {k : SV → Pg} {Q : St → Prop} (hw : (rdRes T r k).wp Q E.σ) :
    ∃ v sv, (resVal r E.a.tmps).run P E.w = .ok v E.w ∧ RelSV T W E (.slot N) v sv ∧ sv.free = true ∧ (k sv).wp Q E.σ := by
  cases r with
  | tmp t =>
    obtain ⟨sv, h1, f1, h3⟩ := rdv_sound h (show (rdv (.tmp t) k).wp Q E.σ from hw) (.slot N)
    exact ⟨E.a.eval (.tmp t), sv, rfl, h1, f1, h3⟩
  | cell a t =>
    unfold rdRes at hw
    simp only at hw
    split at hw
    · rename_i ty hty
      obtain ⟨sv, h1, f1, h3⟩ := rdv_sound h hw (.slot N)
      split at h3
      · rename_i b g p
        obtain ⟨e1, e2⟩ := h1
        simp only [Pg.wp] at h3
        split at h3
        · rename_i hg
          split at h3
          · rename_i m hm
            split at h3
            · rename_i hpm
              obtain ⟨cs, us, c1, c2, c3, c4, c5⟩ := getCells_sound h hm hpm h3
              obtain ⟨v, r1, r2⟩ := run_load (W := W) (N := N) hT (o := { dst := none, op := .load t (.tmp a), type := 0, pos := "", after := #[], guard := none }) rfl hty (e2 hg) c1 c2 c4
              refine ⟨v, _, ?_, r2, ?_, c5⟩
              · have hl := value_inv r1
                have hx : E.a.tmps.getD a undef = .pointer (some ⟨E.β b, p, none⟩) := e2 hg
                have hx' : E.a.eval (.tmp a) = .pointer (some ⟨E.β b, p, none⟩) := hx
                rw [hx'] at hl
                simp only [Instr.loadAt, Instr.sureAddr, Sem.run_bind, Sem.run_pure, Result.andThen_ok] at hl
                simp only [resVal, hx, asAddr, Sem.run_bind, Sem.run_pure, Result.andThen_ok]
                exact hl
              · refine List.all_eq_true.2 fun c hc => ?_
                have := List.all_eq_true.1 c3 c hc
                cases c with
                | sl own e rows => cases own <;> first | rfl | cases this
                | _ => rfl
            · exact h3.elim
          · exact h3.elim
        · exact h3.elim
      · exact h3.elim
    · exact hw.elim

/-- The cells of a result: what is to be owned is taken, all else shared. -/
def fins : List CV → List CV → (List CV → Pg) → Pg
  | [], [], k => k []
  | c :: r, e :: es, k => (match e with | .sl true _ _ => mov1 c | _ => pub1 c) fun c' => c'.force fun c' => fins r es fun r' => k (c' :: r')
  | _, _, _ => .fail
theorem fins_sound : ∀ {cs es : List CV} {k : List CV → Pg} {Q : St → Prop} {E : Env} {j : Nat} {us : List Value}, Rel T W N E → CellsR T W E (.slot N) j cs us → cs.all CV.free = true → (fins cs es k).wp Q E.σ →
    ∃ E' cs', Rel T W N E' ∧ Same E E' ∧ CellsR T W E' (.slot N) j cs' us ∧ cs'.all CV.set = true ∧ (∀ j', j' < j → E'.bk (.slot N) j' = E.bk (.slot N) j') ∧ (k cs').wp Q E'.σ
  | [], [], k, Q, E, j, us, h, hc, _, hw => ⟨E, [], h, .refl E, hc, rfl, fun _ _ => rfl, hw⟩
  | [], _ :: _, k, Q, E, j, us, h, hc, _, hw => hw.elim
  | _ :: _, [], k, Q, E, j, us, h, hc, _, hw => hw.elim
  | c :: r, e :: es, k, Q, E, j, us, h, hc, hf, hw => by
    cases us with
    | nil => exact absurd hc.1 (by simp)
    | cons u us =>
      simp only [List.all_cons, Bool.and_eq_true] at hf
      have one : ∃ E1 c', Rel T W N E1 ∧ Same E E1 ∧ RelCV T W E1 (.slot N) j u c' ∧ c'.set = true ∧ (∀ j', j' < j → E1.bk (.slot N) j' = E.bk (.slot N) j') ∧ ((fun c' => fins r es fun r' => k (c' :: r')) c').wp Q E1.σ := by
        have mv : ∀ {k' : CV → Pg}, (mov1 c k').wp Q E.σ → ∃ E1 c', Rel T W N E1 ∧ Same E E1 ∧ RelCV T W E1 (.slot N) j u c' ∧ c'.set = true ∧ (∀ j', j' < j → E1.bk (.slot N) j' = E.bk (.slot N) j') ∧ (k' c').wp Q E1.σ := fun hw => by
          obtain ⟨E1, c', a1, a2, a3, a4, a5, a6⟩ := mov1_sound h (hc.2 0 c u rfl rfl) hf.1 hw
          exact ⟨E1, c', a1, a2, a3, a4, fun j' hj' => a5 j' (by omega), a6⟩
        have pb : ∀ {k' : CV → Pg}, (pub1 c k').wp Q E.σ → ∃ E1 c', Rel T W N E1 ∧ Same E E1 ∧ RelCV T W E1 (.slot N) j u c' ∧ c'.set = true ∧ (∀ j', j' < j → E1.bk (.slot N) j' = E.bk (.slot N) j') ∧ (k' c').wp Q E1.σ := fun {k'} hw => by
          cases c with
          | al q i n =>
            obtain ⟨ag, cs, o, e', rows, h1, h2, h3, h4, h5⟩ := look_sound h (show (look q i n _).wp Q E.σ from hw) (hc.2 0 _ u rfl rfl)
            cases o with
            | true =>
              obtain ⟨r1, r2⟩ := h.freeze h1 h2
              refine ⟨_, .sl false e' rows, r1, ⟨rfl, rfl, rfl, turn_step h1 fun l j b hb => ?_⟩, r2 u h4, rfl, fun j' _ => ?_, h5⟩
              · split at hb
                · cases hb
                · exact ⟨l, j, hb⟩
              · show (if _ then _ else _) = _
                split
                · rename_i g
                  obtain ⟨g1, g2⟩ := g
                  rw [← g1] at h1
                  rw [← g2] at h2
                  exact (h.ghost h1 h2).elim
                · rfl
            | false => exact ⟨E, .sl false e' rows, h, .refl E, h4, rfl, fun _ _ => rfl, h5⟩
          | dead => exact hw.elim
          | sl own e' rows =>
            cases own with
            | true => cases hf.1
            | false => exact ⟨E, .sl false e' rows, h, .refl E, hc.2 0 _ u rfl rfl, rfl, fun _ _ => rfl, hw⟩
          | i k'' n => exact ⟨E, .i k'' n, h, .refl E, hc.2 0 _ u rfl rfl, rfl, fun _ _ => rfl, hw⟩
          | b x => exact ⟨E, .b x, h, .refl E, hc.2 0 _ u rfl rfl, rfl, fun _ _ => rfl, hw⟩
          | s x => exact ⟨E, .s x, h, .refl E, hc.2 0 _ u rfl rfl, rfl, fun _ _ => rfl, hw⟩
        simp only [fins, CV.force_eq] at hw
        cases e with
        | sl own e' rows =>
          cases own with
          | true => exact mv hw
          | false => exact pb hw
        | i k'' n => exact pb hw
        | b x => exact pb hw
        | s x => exact pb hw
        | al q i n => exact pb hw
        | dead => exact pb hw
      obtain ⟨E1, c', h1, s1, r1, t1, b1, w1⟩ := one
      have hr : CellsR T W E1 (.slot N) (j + 1) r us := by
        refine ⟨by simpa using hc.1, fun i c0 u0 hc0 hu0 => ?_⟩
        have := hc.2 (i + 1) c0 u0 (by simpa using hc0) (by simpa using hu0)
        rw [show j + 1 + i = j + (i + 1) by omega]
        exact this.step s1.step (fun e rows he => by
          have := List.all_eq_true.1 hf.2 c0 (List.mem_of_getElem? hc0)
          rw [he] at this; cases this)
      obtain ⟨E2, r', h2, s2, r2, t2, b2, w2⟩ := fins_sound h1 hr hf.2 w1
      refine ⟨E2, c' :: r', h2, s1.trans s2, ⟨by simp [r2.1], fun i c0 u0 hc0 hu0 => ?_⟩, by simp [t1, t2], fun j' hj' => (b2 j' (by omega)).trans (b1 j' hj'), w2⟩
      cases i with
      | zero =>
        obtain rfl := Option.some.inj hc0
        obtain rfl := Option.some.inj hu0
        exact r1.step s2.step (fun e rows _ => ⟨b2 j (by omega), fun b _ => by rw [s2.w]⟩)
      | succ i =>
        have := r2.2 i c0 u0 (by simpa using hc0) (by simpa using hu0)
        rw [show j + (i + 1) = j + 1 + i by omega]
        exact this

/-- Several results: all are shared. -/
def rets (T : Tab) : List ResultVar → (List (Bool × List CV) → Pg) → Pg
  | [], k => k []
  | r :: rs, k => rdRes T r fun sv => match sv with
    | .val ag cs => pubs cs fun cs' => forceL cs' fun cs' => rets T rs fun vs => k ((ag, cs') :: vs)
    | _ => .fail
/-- The results are what is expected. -/
def retPg (T : Tab) (rs : List ResultVar) (ex : SV) : Pg :=
  match rs, ex with
  | [r], .val ag' es => rdRes T r fun sv => match sv with
    | .val ag cs => if ag = ag' then fins cs es fun cs' => .chk (cs' = es) .done else .fail
    | _ => .fail
  | [_], _ => .fail
  | rs, .tup vs => rets T rs fun vs' => .chk (vs' = vs) .done
  | _, _ => .fail
theorem rets_sound (hT : TabOk P T) : ∀ {rs : List ResultVar} {E : Env} {k : List (Bool × List CV) → Pg} {Q : St → Prop}, Rel T W N E → (rets T rs k).wp Q E.σ →
    ∃ E' vs us, Rel T W N E' ∧ Same E E' ∧ (rs.mapM fun r => resVal r E.a.tmps).run P E.w = .ok us E.w ∧ vs.length = us.length ∧ us.length = rs.length ∧
      (∀ (j : Nat) p u, vs[j]? = some p → us[j]? = some u → ArgR T E'.w E'.X u (.val p.1 p.2)) ∧ (k vs).wp Q E'.σ
  | [], E, k, Q, h, hw => ⟨E, [], [], h, .refl E, rfl, rfl, rfl, fun j p u h => by simp at h, hw⟩
  | r :: rs, E, k, Q, h, hw => by
    obtain ⟨v, sv, h0, h1, f1, h3⟩ := rdRes_sound hT h (show (rdRes T r _).wp Q E.σ from hw)
    split at h3
    · rename_i ag cs
      obtain ⟨us, u1, u2, u3⟩ := h1.operand
      obtain ⟨E1, cs', r1, s1, c1, t1, g1, w1⟩ := pubs_sound h u1 (cellsFree_of_free f1) h3
      rw [forceL_eq] at w1
      obtain ⟨E2, vs, us', r2, s2, m2, l2, l3, b2, w2⟩ := rets_sound hT r1 w1
      refine ⟨E2, (ag, cs') :: vs, v :: us', r2, s1.trans s2, ?_, by simp [l2], by simp [l3], fun j p u hp hu => ?_, w2⟩
      · rw [s1.a, s1.w] at m2
        rw [List.mapM_cons]
        simp only [Sem.run_bind, h0, Result.andThen_ok, m2]
        rfl
      · cases j with
        | zero =>
          obtain rfl := Option.some.inj hp
          obtain rfl := Option.some.inj hu
          have hA : ArgR T E1.w E1.X v (.val ag cs') := argR_of c1.1 u2 (fun h => (u3 h).1) (fun i c u hc hu => (c1.2 i c u hc hu).arg (List.all_eq_true.1 t1 c (List.mem_of_getElem? hc)) (List.all_eq_true.1 g1 c (List.mem_of_getElem? hc)))
          rw [s2.w]
          exact hA.less (fun b hb hx => s2.step.less b hb hx)
        | succ j => exact b2 j p u (by simpa using hp) (by simpa using hu)
    · exact h3.elim
theorem results_eq {fn : Func} {tmps : Array Value} {w : World} {us : List Value} (h : (fn.results.toList.mapM fun r => resVal r tmps).run P w = .ok us w) : (results fn tmps).run P w = .ok (if us.length = 1 then us.headD undef else .tuple us.toArray) w := by
  have hf : results fn tmps = (do let vs ← fn.results.mapM (fun r => resVal r tmps); pure (if h : vs.size = 1 then vs[0] else .tuple vs)) := by
    unfold results
    congr 1
  have hm : (fn.results.mapM fun r => resVal r tmps).run P w = Result.ok us.toArray w := by
    rw [Array.mapM_eq_mapM_toList]
    simp only [map_eq_pure_bind, Sem.run_bind, h]
    rfl
  rw [hf, Sem.run_bind, hm]
  simp only [Result.andThen_ok]
  match us with
  | [] => rfl
  | [u] => rfl
  | u :: u' :: r => simp
/-- Data that memory can hold: numbers in range, lengths that fit, rows of the right kinds. -/
inductive WfD (T : Tab) : CT → D → Prop
  | int (k n) : inK k n → WfD T (.i k) (.i n)
  | bool (x) : WfD T .b (.b x)
  | str (x) : x.size ≤ maxLen → WfD T .s (.s x)
  | nil (e) : WfD T (.l e) (.l [])
  | sl (e : TypeId) (ty : Ty) (rows : List (List D)) : T e = some ty → rows.length ≤ maxLen → (∀ (k : Nat) (row : List D), rows[k]? = some row → row.length = ty.cts.length) →
      (∀ (k j : Nat) ct d (row : List D), rows[k]? = some row → ty.cts[j]? = some ct → row[j]? = some d → WfD T ct d) → WfD T (.l e) (.l rows)
theorem RdR.wf {w : World} {X : Nat → Prop} {ct : CT} {v : Value} {d : D} (h : RdR T w X ct v d) : WfD T ct d := by
  induction h with
  | int k n h => exact .int k n h
  | bool x => exact .bool x
  | str x h => exact .str x h
  | nil e A c h => exact .nil e
  | sl e ty b o c rows vs h1 h2 h3 h4 h5 h6 h7 _ ih => exact .sl e ty rows h1 (Nat.le_trans h2 h3) h7 ih
def WfC (T : Tab) : CV → Prop
  | .i k n => inK k n
  | .b _ => True
  | .s x => x.size ≤ maxLen
  | .sl false e rows => WfD T (.l e) (.l rows)
  | _ => False
def WfSV (T : Tab) : SV → Prop
  | .val _ cs => ∀ c ∈ cs, WfC T c
  | _ => False
theorem ArgC.wf {w : World} {X : Nat → Prop} {v : Value} {c : CV} (h : ArgC T w X v c) : WfC T c := by
  cases c with
  | sl own e rows =>
    cases own with
    | true => exact h
    | false => exact RdR.wf h
  | i k n => exact h.2
  | b x => trivial
  | s x => exact h.2
  | al q i n => exact h
  | dead => exact h
theorem ArgR.wf {w : World} {X : Nat → Prop} {v : Value} {a : SV} (h : ArgR T w X v a) : WfSV T a := by
  cases a with
  | val ag cs =>
    cases ag with
    | true =>
      obtain ⟨us, h1, h2, h3⟩ := h
      intro c hc
      obtain ⟨i, hi⟩ := List.getElem?_of_mem hc
      have hlt : i < us.length := by rw [← h2]; exact (List.getElem?_eq_some_iff.1 hi).1
      exact (h3 i c us[i] hi (List.getElem?_eq_getElem hlt)).wf
    | false =>
      obtain ⟨c, rfl, h2⟩ := h
      intro c' hc
      obtain rfl : c' = c := by simpa using hc
      exact h2.wf
  | _ => exact h
theorem fok (hT : TabOk P T) {env : FuncId → Option FSpec} (hE : EnvOk P T env) (hm : P.follows .mixedOrders = true) {f : FuncId} {fn : Func} {c : Code} {s : FSpec} (hf : P.funcs[f]? = some fn) (hb : fn.body = some c)
    (hcall : ∀ args w, (callFunc f args).run P w = .ok (.enter f args) w) (hN : fn.ntmps = N)
    (h : ∀ args, s.pre args → (∀ a ∈ args, WfSV T a) → args.length ≤ N ∧ awp T env N c (fun e σ => (e = .normal ∨ e = .ret) ∧ (retPg T fn.results.toList (s.res args)).wp (fun _ => True) σ) (init args)) (hbx : s.bx = false := by rfl) : FOk P T f s := by
  refine ⟨hcall, fun hb => (by rw [hbx] at hb; cases hb), fun _ w X args vals hX hargs hpre => ?_⟩
  obtain ⟨hlen, hw⟩ := h args hpre (fun a ha => by
    obtain ⟨i, hi⟩ := List.getElem?_of_mem ha
    have hlt : i < vals.length := by rw [← hargs.1]; exact (List.getElem?_eq_some_iff.1 hi).1
    exact (hargs.2 i a vals[i] hi (List.getElem?_eq_getElem hlt)).wf)
  have hvl : vals.length ≤ N := by rw [← hargs.1]; exact hlen
  refine calls_of_wp hf hb ?_
  let W : Base := { toWorld := w, x0 := X, x0lt := hX, lent := fun _ => False, lentx := fun _ h => h.elim, pin := none }
  let E : Env := { σ := init args, a := { tmps := vals.toArray ++ Array.replicate (fn.ntmps - vals.toArray.size) undef, defers := [] }, w := w, β := fun _ => 0, bk := fun _ _ => none, x0 := X }
  have hEX : ∀ b, E.X b → X b := fun b hb => by
    rcases hb with hb | ⟨t, ⟨m, hm⟩, _⟩ | ⟨l, j, hl⟩
    · exact hb
    · cases hm
    · cases hl
  have hal : ∀ t, ¬ E.alive t := fun t ⟨m, hm⟩ => by cases hm
  have hcv : ∀ {v c l j}, ArgC T w X v c → RelCV T W E l j v c := fun {v c l j} hc => by
    cases c with
    | sl own e rows =>
      cases own with
      | true => exact hc.elim
      | false => exact RdR.move (hc : RdR T w X _ _ _) (Keeps.refl _ _) (fun b _ hb => hEX b hb)
    | i k n => exact hc
    | b x => exact hc
    | s x => exact hc
    | al q i n => exact hc.elim
    | dead => exact hc.elim
  have hrel : Rel T W N E := by
    refine ⟨Kept.refl W, rfl, rfl, ?_, fun t => ?_, fun t m j hm => (hal t ⟨m, hm⟩).elim, fun t ha => (hal t ha).elim, fun t _ ha => (hal t ha).elim, fun l j b hb => (by cases hb), fun l j l' j' b hb => (by cases hb), fun l j b t hb => (by cases hb), fun b hb => (by cases hb)⟩
    · show (vals.toArray ++ Array.replicate (fn.ntmps - vals.toArray.size) undef).size = N
      rw [Array.size_append, Array.size_replicate, hN]
      simp; omega
    · show RelSV T W E (.slot t) _ (args.getD t .none)
      by_cases ht : t < args.length
      · have hv : t < vals.length := by rw [← hargs.1]; exact ht
        have hA := hargs.2 t args[t] vals[t] (List.getElem?_eq_getElem ht) (List.getElem?_eq_getElem hv)
        have e1 : args.getD t .none = args[t] := by simp [List.getD_eq_getElem?_getD, List.getElem?_eq_getElem ht]
        have e2 : E.a.tmps.getD t undef = vals[t] := by
          show (vals.toArray ++ _).getD t undef = _
          rw [Array.getD_eq_getD_getElem?, Array.getElem?_append_left (by simpa using hv)]
          simp [hv]
        rw [e1, e2]
        cases ha : args[t] with
        | val ag cs =>
          rw [ha] at hA
          cases ag with
          | true =>
            obtain ⟨us, g1, g2, g3⟩ := hA
            refine ⟨us.toArray, g1, by simp [g2], fun j c hc => ?_⟩
            have hj : j < us.length := by rw [← g2]; exact (List.getElem?_eq_some_iff.1 hc).1
            exact ⟨us[j], by simp [hj], hcv (g3 j c us[j] hc (List.getElem?_eq_getElem hj))⟩
          | false =>
            obtain ⟨c, g1, g2⟩ := hA
            exact ⟨c, g1, hcv g2⟩
        | _ => rw [ha] at hA; exact hA.elim
      · have e1 : args.getD t .none = .none := by simp [List.getD_eq_getElem?_getD, List.getElem?_eq_none (Nat.le_of_not_lt ht)]
        rw [e1]
        trivial
  have := awp_ok hT hE hm c hrel hw
  refine wp_mono this fun e a w' hq => ?_
  obtain ⟨E', h', rfl, rfl, he, hr⟩ := hq
  have hbelow : Below w.heap.size w E'.w := ⟨h'.base.os, h'.base.tape, h'.base.output, h'.base.size, fun k hk => h'.base.block k hk (fun h => h)⟩
  have post : E'.a.defers = [] ∧ ∃ v, (results fn E'.a.tmps).run P E'.w = .ok v E'.w ∧ ∃ v' bk, Ending.returned v = .returned v' ∧ Below w.heap.size w E'.w ∧ ResR T E'.w (fun b => X b ∨ ∃ j, bk j = some b) 0 bk v' (s.res args) ∧
      (∀ j b, bk j = some b → w.heap.size ≤ b ∧ b < E'.w.heap.size) ∧ ∀ j j' b, bk j = some b → bk j' = some b → j = j' := by
    refine ⟨h'.defers, ?_⟩
    unfold retPg at hr
    split at hr
    · rename_i r ag' es hrs hex
      obtain ⟨v, sv, g0, g1, g2, g3⟩ := rdRes_sound hT h' hr
      split at g3
      · rename_i ag cs
        split at g3
        · rename_i hag
          subst hag
          obtain ⟨us, u1, u2, u3⟩ := g1.operand
          obtain ⟨E2, cs', r1, s1, c1, t1, _, w1⟩ := fins_sound h' u1 (cellsFree_of_free g2) g3
          have hcs : cs' = es := w1.1
          subst hcs
          rw [hex]
          have hres : (results fn E'.a.tmps).run P E'.w = .ok v E'.w := by
            have hm1 : (fn.results.toList.mapM fun r => resVal r E'.a.tmps).run P E'.w = .ok [v] E'.w := by
              rw [hrs, List.mapM_cons]
              simp only [Sem.run_bind, g0, Result.andThen_ok, List.mapM_nil, Sem.run_pure]
            exact results_eq hm1
          have hX2 : ∀ b, (X b ∨ ∃ j, E2.bk (.slot N) j = some b) → E2.X b := fun b hb => by
            rcases hb with hb | ⟨j, hj⟩
            · left
              have : E2.x0 = X := r1.x0
              rw [this]; exact hb
            · exact .inr (.inr ⟨_, j, hj⟩)
          have hcell : ∀ (i : Nat) c u, cs'[i]? = some c → us[i]? = some u → ResC T E'.w (fun b => X b ∨ ∃ j, E2.bk (.slot N) j = some b) 0 (E2.bk (.slot N)) i u c := by
            intro i c u hc hu
            have hrc := c1.2 i c u hc hu
            rw [Nat.zero_add] at hrc
            have hset := List.all_eq_true.1 t1 c (List.mem_of_getElem? hc)
            rw [← s1.w]
            cases c with
            | sl own e' rows =>
              cases own with
              | true => exact ⟨hrc.1.move (Keeps.refl _ _) (fun b _ hb => hX2 b hb) (fun _ _ => rfl), hrc.2⟩
              | false => exact RdR.move (hrc : RdR T E2.w E2.X _ _ _) (Keeps.refl _ _) (fun b _ hb => hX2 b hb)
            | i k n => exact hrc
            | b x => exact hrc
            | s x => exact hrc
            | al q i n => cases hset
            | dead => cases hset
          refine ⟨v, hres, v, E2.bk (.slot N), rfl, hbelow, ?_, fun j b hj => by have := r1.owlo _ _ _ hj; rw [s1.w] at this; exact ⟨this.1.resolve_right (fun h => h), this.2⟩, fun j j' b hj hj' => (r1.owinj _ _ _ _ _ hj hj').2⟩
          cases ag with
          | true => exact ⟨us, u2 rfl, c1.1, hcell⟩
          | false =>
            have hus := (u3 rfl).1
            subst hus
            match cs', c1.1 with
            | [c'], _ => exact ⟨c', rfl, hcell 0 c' v rfl rfl⟩
        · exact g3.elim
      · exact g3.elim
    · exact hr.elim
    · rename_i vs hex hrs
      obtain ⟨E2, vs', us, r1, s1, m1, l1, l2, b1, w1⟩ := rets_sound hT h' hr
      have hvs : vs' = vs := w1.1
      subst hvs
      rw [hex]
      have hlen1 : us.length ≠ 1 := by
        intro hu
        obtain ⟨r, hr1⟩ := List.length_eq_one_iff.1 (l2.symm.trans hu)
        exact hrs r hr1
      refine ⟨_, results_eq m1, .tuple us.toArray, fun _ => none, by rw [if_neg hlen1], hbelow, ⟨us, rfl, l1, fun j p u hp hu => ?_⟩, (fun j b h => by cases h), (fun j j' b h => by cases h)⟩
      have := b1 j p u hp hu
      rw [s1.w] at this
      exact this.less (fun b hb hx => by
        rcases hx with hx | ⟨j, hj⟩
        · left
          have : E2.x0 = X := r1.x0
          rw [this]; exact hx
        · cases hj)
    · exact hr.elim
  rcases he with rfl | rfl
  · exact post
  · exact post

/-! Facts on types, as a program prints them -/
theorem TyOk.mkAgg {t : TypeId} {ty : Ty} {fs : Array Field} (hi : (P.info? t).map (fun i => (i.size, i.bytes, i.zero)) = some (ty.cts.length, ty.bytes, some (.agg (ty.cts.map zeroV).toArray))) (hag : ty.agg = true)
    (he : ty.cts.all (fun c => match c with | .l e => (T e).isSome | _ => true) = true) (hu : P.underlying t = some (.struct fs)) (hl : fs.size = ty.offs.length)
    (hf : (fs.toList.zip ty.offs).all (fun (f, (o, s)) => f.offset == o && P.cellsOf f.type == s && s != 0) = true) (hq : ty.eq = true → EqFact P t ty.cts) : TyOk P T t ty := by
  cases hinf : P.info? t with
  | none => rw [hinf] at hi; cases hi
  | some i =>
    rw [hinf] at hi
    simp only [Option.map_some, Option.some.injEq, Prod.mk.injEq] at hi
    refine ⟨⟨i, hinf, hi.1, hi.2.1, by rw [hag, hi.2.2]; rfl⟩, fun e hm => by have := List.all_eq_true.1 he _ hm; exact this, fun _ => ⟨fs, hu, hl, fun f off sz ho => ?_⟩, hq, fun h => by rw [hag] at h; cases h⟩
    have hlt : f < fs.size := by rw [hl]; exact (List.getElem?_eq_some_iff.1 ho).1
    have hfs : fs[f]? = some fs[f] := Array.getElem?_eq_getElem hlt
    have hz : (fs.toList.zip ty.offs)[f]? = some (fs[f], (off, sz)) := by
      rw [List.getElem?_zip_eq_some]
      exact ⟨by rw [Array.getElem?_toList]; exact hfs, ho⟩
    have := List.all_eq_true.1 hf _ (List.mem_of_getElem? hz)
    simp only [Bool.and_eq_true, beq_iff_eq, bne_iff_ne, ne_eq] at this
    exact ⟨_, hfs, this.1.1, this.1.2, this.2⟩
theorem TyOk.mkOne {t : TypeId} {ty : Ty} {c : CT} (hu : match c with | .i k => P.underlying t = some (.int k) | .b => P.underlying t = some .bool | .s => P.underlying t = some .string | .l e => P.underlying t = some (.slice e)) (hq : ty.eq = false) (hi : (P.info? t).map (fun i => (i.size, i.bytes, i.zero)) = some (ty.cts.length, ty.bytes, some (zeroV c))) (hag : ty.agg = false) (hc : ty.cts = [c])
    (he : ty.cts.all (fun c => match c with | .l e => (T e).isSome | _ => true) = true) : TyOk P T t ty := by
  cases hinf : P.info? t with
  | none => rw [hinf] at hi; cases hi
  | some i =>
    rw [hinf] at hi
    simp only [Option.map_some, Option.some.injEq, Prod.mk.injEq] at hi
    exact ⟨⟨i, hinf, hi.1, hi.2.1, by rw [hag, hi.2.2, hc]; rfl⟩, fun e hm => by have := List.all_eq_true.1 he _ hm; exact this, fun h => (by rw [hag] at h; cases h), (fun h => by rw [hq] at h; cases h), fun _ => ⟨c, hc, hu⟩⟩
def tabOf (l : List (TypeId × Ty)) : Tab := fun t => (l.find? (·.1 == t)).map (·.2)
theorem tabOk {l : List (TypeId × Ty)} (h : ∀ p ∈ l, TyOk P (tabOf l) p.1 p.2) : TabOk P (tabOf l) := by
  intro t ty ht
  unfold tabOf at ht
  cases hf : l.find? (·.1 == t) with
  | none => rw [hf] at ht; cases ht
  | some p =>
    rw [hf] at ht
    obtain rfl := Option.some.inj ht
    have h1 := List.find?_some hf
    have h2 := List.mem_of_find?_eq_some hf
    have : p.1 = t := by simpa using h1
    rw [← this]
    exact h p h2
end Go.Proofs.YtijnlnmoellbaaaGreat.Ab
