/- Variables, structures, slices: each abstract step is what the model's operation does. No program in sight. -/
import Derived.Test.YtijnlnmoellbaaaGreatAb9
import Derived.Laws.MakeOwn
namespace Go.Proofs.YtijnlnmoellbaaaGreat.Ab
open Go.RowKit
variable {P : Program} {T : Tab} {W : Base} {N : Nat}

theorem CellsR.one {E : Env} {l : Loc} {j : Nat} {cs : List CV} {us : List Value} (h : CellsR T W E l j cs us) (hs : cs.all CV.set = true) : ∀ u ∈ us, u.oneCell' = true := by
  intro u hu
  obtain ⟨i, hi⟩ := List.getElem?_of_mem hu
  have hlt : i < cs.length := by rw [h.1]; exact (List.getElem?_eq_some_iff.1 hi).1
  have hc := List.getElem?_eq_getElem hlt
  have hr := h.2 i _ u hc hi
  have hset := List.all_eq_true.1 hs _ (List.mem_of_getElem? hc)
  cases hcc : cs[i] with
  | i k n => rw [hcc] at hr; rw [hr.1]; rfl
  | b x => rw [hcc] at hr; rw [(hr : u = _)]; rfl
  | s x => rw [hcc] at hr; rw [hr.1]; rfl
  | sl own e rows =>
    rw [hcc] at hr
    cases own with
    | true => exact hr.1.one
    | false => exact RdR.one (hr : RdR T _ _ _ _ _)
  | al q i' n => rw [hcc] at hset; cases hset
  | dead => rw [hcc] at hset; cases hset

/-- The ghost place names nothing. -/
def Env.clr (E : Env) (N : Nat) : Env := { E with bk := fun l j => if l = .slot N then none else E.bk l j }
theorem clr_step {E : Env} : Step E (E.clr N) := by
  refine ⟨fun q => ⟨Nat.le_refl _, fun _ i => rfl⟩, fun _ _ => rfl, Keeps.refl _ _, fun b _ hb => ?_⟩
  rcases hb with hb | ⟨t, ht, rfl⟩ | ⟨l, j, hl⟩
  · exact .inl hb
  · exact .inr (.inl ⟨t, ht, rfl⟩)
  · simp only [Env.clr] at hl
    split at hl
    · cases hl
    · exact .inr (.inr ⟨l, j, hl⟩)
theorem Rel.clr {E : Env} (h : Rel T W N E) : Rel T W N (E.clr N) := by
  have bkc : ∀ {l j x}, (E.clr N).bk l j = some x → E.bk l j = some x := fun {l j x} hl => by
    simp only [Env.clr] at hl
    split at hl
    · cases hl
    · exact hl
  refine h.next clr_step h.base h.defers h.size (fun t => ?_) (fun t m j hm hj => .inl ⟨hm, rfl, rfl, rfl, by simp [Env.clr], fun _ _ => rfl⟩) h.bxlo h.bxinj (fun l j b hb => h.owlo l j b (bkc hb)) (fun l j l' j' b hb hb' => h.owinj _ _ _ _ _ (bkc hb) (bkc hb')) (fun l j b t hb ha => h.owbx _ _ _ _ (bkc hb) ha)
  by_cases e : t = N
  · subst e
    right
    exact (h.slot t).step clr_step (fun ag cs j e rows he hc => (h.ghost he hc).elim)
  · exact .inl ⟨rfl, rfl, fun j => ⟨by simp [Env.clr, e], fun _ _ => rfl⟩⟩

def zeroC : CT → CV
  | .i k => .i k 0
  | .b => .b false
  | .s => .s ByteArray.empty
  | .l e => .sl true e []
theorem zero_inK (k : IntKind) : inK k 0 := by cases k <;> exact ⟨by decide, by decide⟩
theorem zero_cellsR {E : Env} {cts : List CT} (he : ∀ e, CT.l e ∈ cts → (T e).isSome) (hbk : ∀ j, E.bk (.slot N) j = none) : CellsR T W E (.slot N) 0 (cts.map zeroC) (cts.map zeroV) := by
  refine ⟨by simp, fun i c u hc hu => ?_⟩
  rw [List.getElem?_map] at hc hu
  cases hct : cts[i]? with
  | none => rw [hct] at hc; cases hc
  | some ct =>
    rw [hct] at hc hu
    obtain rfl := Option.some.inj hc
    obtain rfl := Option.some.inj hu
    cases ct with
    | i k => exact ⟨rfl, zero_inK k⟩
    | b => rfl
    | s => exact ⟨rfl, Nat.zero_le _⟩
    | l e =>
      have := he e (List.mem_of_getElem? hct)
      cases hte : T e with
      | none => rw [hte] at this; cases this
      | some te => exact ⟨own_nil hte, (hbk _).symm⟩
theorem zeroCells_eq {t : TypeId} {ty : Ty} (ok : TyOk P T t ty) : ∃ z, (zeroValue t).run P = (fun w => .ok z w) ∧ z.cells.toList = ty.cts.map zeroV ∧ ∃ i, P.info? t = some i ∧ i.zero = some z := by
  obtain ⟨i, h1, h2, h3, h4⟩ := ok.info
  refine ⟨_, funext fun w => by simp only [zeroValue, typeInfo, Sem.run_bind]; simp [h1, h4], ?_, i, h1, h4⟩
  cases hag : ty.agg with
  | true => simp [Value.cells]
  | false =>
    obtain ⟨c, hc, _⟩ := ok.one hag
    rw [hc]
    cases c <;> rfl

/-- A variable of cells cs under slot d. -/
def putBox (N : Nat) (o : Oper) (cs : List CV) : Pg :=
  match o.dst with
  | some d => .get (.gen d) fun v =>
    match v.2 with
    | .num m => if m = cs.length then .lt d N (setBox d 0 cs (.set 1 (.gen d) (.num cs.length) (.set 1 (.slot d) (.ptr d (v.1 + 1) 0) .done))) else .fail
    | _ => .lt d N (setBox d 0 cs (.set 1 (.gen d) (.num cs.length) (.set 1 (.slot d) (.ptr d (v.1 + 1) 0) .done)))
  | none => .fail
theorem sound_box {E : Env} {o : Oper} {Q : St → Prop} {K : Act → World → Prop} {Qx : Exit → Act → World → Prop} {cs : List CV} {us : List Value} {et : TypeId} (h : Rel T W N E)
    (hrun : (execOp E.a.eval o).run P E.w = .ok (.value (.pointer (some ⟨E.w.heap.size, 0, none⟩))) (E.w.alloc (.cells us.toArray et))) (hc : CellsR T W E (.slot N) 0 cs us)
    (hw : (putBox N o cs).wp Q E.σ) (hK : ∀ E', Rel T W N E' → Q E'.σ → K E'.a E'.w) : o.wp P E.a E.w K Qx := by
  unfold Oper.wp
  rw [hrun, Oper.upon_value]
  unfold putBox at hw
  split at hw
  · rename_i d hd
    rw [hd]
    have fin : (∀ m, (E.σ (.gen d)).2 = .num m → m = cs.length) → (Pg.lt d N (setBox d 0 cs (.set 1 (.gen d) (.num cs.length) (.set 1 (.slot d) (.ptr d ((E.σ (.gen d)).1 + 1) 0) .done)))).wp Q E.σ → K (E.a.put (some d) (.pointer (some ⟨E.w.heap.size, 0, none⟩))) (E.w.alloc (.cells us.toArray et)) := by
      intro hold hw
      obtain ⟨hdN, hw⟩ := Pg.lt_wp hw
      rw [setBox_wp] at hw
      exact hK _ (h.made (b := d) hold hdN hc rfl) hw
    simp only [Pg.wp] at hw
    split at hw
    · rename_i m hm
      split at hw
      · rename_i hmc
        exact fin (fun m' hm' => by rw [hm] at hm'; simp only [SV.num.injEq] at hm'; omega) hw
      · exact hw.elim
    · rename_i hno
      exact fin (fun m' hm' => absurd hm' (hno m')) hw
  · exact hw.elim

def stepAlloc (T : Tab) (N : Nat) (o : Oper) (t : TypeId) : Pg :=
  match T t with
  | some ty => putBox N o (ty.cts.map zeroC)
  | none => .fail
theorem alloc_ok (hT : TabOk P T) {o : Oper} {t : TypeId} (ho : o.op = .alloc t) : OpOk P T W N o (stepAlloc T N o t) := by
  intro E Q K Qx h hw hK
  unfold stepAlloc at hw
  split at hw
  · rename_i ty hty
    have ok := hT t ty hty
    obtain ⟨z, hz1, hz2, _⟩ := zeroCells_eq ok
    refine sound_box (E := E.clr N) (us := ty.cts.map zeroV) (et := t) h.clr ?_ (zero_cellsR ok.elems (fun j => by simp [Env.clr])) hw hK
    show (execOp E.a.eval o).run P E.w = _
    have hcells : z.cells = (ty.cts.map zeroV).toArray := by rw [← hz2]
    simp only [execOp, ho, Instr.alloc, Sem.run_bind, hz1, Result.andThen_ok, newVar, newRow, hcells]
    rfl
  · exact hw.elim

/-- A variable that begins with a value. -/
def stepBox (T : Tab) (N : Nat) (o : Oper) (t : TypeId) (x : Operand) : Pg :=
  match T t with
  | some ty => rdv x fun sv => match sv with
    | .val ag cs => if ag = ty.agg ∧ cs.length = ty.cts.length then movs cs fun cs' => putBox N o cs' else .fail
    | _ => .fail
  | none => .fail
/-- The cells of a value, be it a structure or a single cell. -/
theorem RelSV.anyCells {E : Env} {l : Loc} {v : Value} {ag : Bool} {cs : List CV} (h : RelSV T W E l v (.val ag cs)) (hv : ag = false → v.cells = #[v]) : ∃ us, CellsR T W E l 0 cs us ∧ v.cells = us.toArray := by
  cases ag with
  | true =>
    obtain ⟨us, rfl, h2⟩ := h.cellsR
    exact ⟨us, h2, rfl⟩
  | false =>
    obtain ⟨c, rfl, h2⟩ := h
    refine ⟨[v], ⟨rfl, fun i c' u hc hu => ?_⟩, hv rfl⟩
    cases i with
    | zero =>
      obtain rfl := Option.some.inj hc
      obtain rfl := Option.some.inj hu
      exact h2
    | succ i => cases hc
theorem CellsR.cells1 {E : Env} {l : Loc} {c : CV} {u : Value} (h : CellsR T W E l 0 [c] [u]) (hs : c.set = true) : u.cells = #[u] := by
  have hr := h.2 0 c u rfl rfl
  cases c with
  | i k n => rw [hr.1]; rfl
  | b x => rw [(hr : u = _)]; rfl
  | s x => rw [hr.1]; rfl
  | sl own e rows =>
    cases own with
    | true => exact hr.1.cells
    | false => exact RdR.cells (hr : RdR T _ _ _ _ _)
  | al q i n => cases hs
  | dead => cases hs
/-- Operand values are moved: what lies behind them. -/
theorem movs_val {E : Env} (h : Rel T W N E) {v : Value} {ag : Bool} {cs : List CV} {k : List CV → Pg} {Q : St → Prop} (hv : RelSV T W E (.slot N) v (.val ag cs)) (hf : cs.all CV.free = true) (hw : (movs cs k).wp Q E.σ) :
    ∃ E' cs' us, Rel T W N E' ∧ Same E E' ∧ CellsR T W E' (.slot N) 0 cs' us ∧ cs'.all CV.set = true ∧ v.cells = us.toArray ∧ (ag = true → v = .agg us.toArray) ∧ (ag = false → us = [v]) ∧ us.length = cs.length ∧ (k cs').wp Q E'.σ := by
  cases ag with
  | true =>
    obtain ⟨us, rfl, h2⟩ := hv.cellsR
    obtain ⟨E', cs', r1, s1, c1, t1, _, w1⟩ := movs_sound h h2 hf hw
    exact ⟨E', cs', us, r1, s1, c1, t1, rfl, fun _ => rfl, (fun h => by cases h), h2.1.symm, w1⟩
  | false =>
    obtain ⟨c, rfl, h2⟩ := hv
    have hc : CellsR T W E (.slot N) 0 [c] [v] := ⟨rfl, fun i c' u hc hu => by
      cases i with
      | zero =>
        obtain rfl := Option.some.inj hc
        obtain rfl := Option.some.inj hu
        exact h2
      | succ i => cases hc⟩
    obtain ⟨E', cs', r1, s1, c1, t1, _, w1⟩ := movs_sound h hc hf hw
    have hl := c1.1
    match cs', hl with
    | [c'], _ => exact ⟨E', [c'], [v], r1, s1, c1, t1, CellsR.cells1 c1 (by simpa using t1), (fun h => by cases h), fun _ => rfl, rfl, w1⟩
theorem box_ok {o : Oper} {t : TypeId} {x : Operand} (ho : o.op = .box t x) : OpOk P T W N o (stepBox T N o t x) := by
  intro E Q K Qx h hw hK
  unfold stepBox at hw
  split at hw
  · rename_i ty hty
    obtain ⟨sv, h1, f1, h3⟩ := rdv_sound h hw (.slot N)
    split at h3
    · rename_i ag cs
      split at h3
      · obtain ⟨E', cs', us, r1, s1, c1, t1, e1, _, _, el, w1⟩ := movs_val h h1 (cellsFree_of_free f1) h3
        refine s1.run (sound_box (et := t) r1 ?_ c1 w1 hK)
        rw [s1.a, s1.w]
        simp only [execOp, ho, Instr.box, Sem.run_bind, newVar, newRow, e1]
        rfl
      · exact h3.elim
    · exact h3.elim
  · exact hw.elim

/-- A store into a variable; into an element of an owned slice. -/
def stepStore (T : Tab) (o : Oper) (t : TypeId) (x y : Operand) : Pg :=
  match o.dst, T t with
  | none, some ty => rdv x fun sx => rdv y fun sy => match sx, sy with
    | .ptr b g p, .val ag cs => if ag = ty.agg ∧ cs.length = ty.cts.length then movs cs fun cs' => .get (.gen b) fun v => if v.1 = g then match v.2 with
          | .num m => if p + cs'.length ≤ m then setBox b p cs' .done else .fail
          | _ => .fail
        else .fail
      else .fail
    | _, _ => .fail
  | _, _ => .fail
theorem run_store (hT : TabOk P T) {E : Env} {o : Oper} {t : TypeId} {x y : Operand} {ty : Ty} (ho : o.op = .store t x y) (hty : T t = some ty) {b p : Nat} (hx : E.a.eval x = .pointer (some ⟨b, p, none⟩))
    {us : List Value} (hy : (E.a.eval y).cells = us.toArray) (hn : us.length = ty.cts.length) (h1 : ∀ u ∈ us, u.oneCell' = true) (ht : E.w.there b p us.length) :
    (execOp E.a.eval o).run P E.w = .ok .skip (E.w.setCells b p us) := by
  have ok := hT t ty hty
  have hst := run_storeCells_cells (P := P) b p us 0 E.w (fun j hj => by simpa using (ht j hj).1) (fun j hj => by simpa using (ht j hj).2) h1
  simp only [Nat.add_zero] at hst
  obtain ⟨i, i1, i2, _⟩ := ok.info
  simp [execOp, ho, hx, Instr.storeAt, Instr.sureAddr, storeVar, hy, sizeOf, typeInfo, i1, i2, hn, hst]
theorem store_ok (hT : TabOk P T) {o : Oper} {t : TypeId} {x y : Operand} (ho : o.op = .store t x y) : OpOk P T W N o (stepStore T o t x y) := by
  intro E Q K Qx h hw hK
  unfold stepStore at hw
  split at hw
  · rename_i ty hd hty
    obtain ⟨sx, h1, _f1, h3⟩ := rdv_sound h hw (.slot N)
    obtain ⟨sy, h4, f4, h6⟩ := rdv_sound h h3 (.slot N)
    split at h6
    · rename_i b g p ag cs
      split at h6
      · rename_i hlen
        obtain ⟨E', cs', us, r1, s1, c1, t1, e1, _, _, el, w1⟩ := movs_val h h4 (cellsFree_of_free f4) h6
        have hx := RelSV.step_free (l := .slot N) (sv := .ptr b g p) h1 s1.step rfl
        simp only [Pg.wp] at w1
        split at w1
        · rename_i hg
          split at w1
          · rename_i m hm
            split at w1
            · rename_i hp
              refine s1.run ?_
              have hl : us.length = ty.cts.length := el.trans hlen.2
              have hrun := run_store hT ho hty (E := E') (by rw [s1.a]; exact hx.2 hg) (us := us) (by rw [s1.a]; exact e1) hl (c1.one t1) (fun j hj => by
                obtain ⟨c, v, e1', e2, e3, _⟩ := r1.cell b m (p + j) hm (by have := c1.1; omega)
                exact ⟨by rw [e2]; rfl, e3⟩)
              unfold Oper.wp
              rw [hrun, Oper.upon_skip, hd]
              rw [setBox_wp] at w1
              exact hK _ (r1.stored hm hp c1) w1
            · exact w1.elim
          · exact w1.elim
        · exact w1.elim
      · exact h6.elim
    · exact h6.elim
  · exact hw.elim
end Go.Proofs.YtijnlnmoellbaaaGreat.Ab
