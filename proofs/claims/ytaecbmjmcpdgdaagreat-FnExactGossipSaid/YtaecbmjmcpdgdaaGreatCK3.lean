/- Variables, structures, slices: each abstract step is what the model's operation does. No program in sight. Nil and elements stored, structures and slices built, slices made, appended to, cut. No program in sight. A store into an element of an owned slice. No program in sight. Slices built, made, appended to. No program in sight. -/
import Derived.Test.YtaecbmjmcpdgdaaGreatCK2
import Derived.Laws.MakeOwn
set_option linter.unusedVariables false
set_option linter.unusedSimpArgs false
namespace Go.Proofs.YtaecbmjmcpdgdaaGreat.Ab
open Go.RowKit
variable {P : Program} {T : Tab} {W : Base} {N : Nat}
theorem CellsR.one {E : Env} {l : Loc} {j : Nat} {cs : List CV} {us : List Value} (h : CellsR T W E l j cs us) (hs : cs.all CV.set = true) : ∀ u ∈ us, u.oneCell' = true := by
  intro u hu
  obtain ⟨i, hi⟩ := List.getElem?_of_mem hu
  have hlt : i < cs.length := by rw [h.1]; exact (List.getElem?_eq_some_iff.1 hi).1
  have hc := List.getElem?_eq_getElem hlt
  have hr := h.2 i _ u hc hi
  have hset := List.all_eq_true.1 hs _ (List.mem_of_getElem? hc)
  cases hcc : cs[i] with
  | i k n => rw [hcc] at hr; rw [hr.1]; rfl
  | b x => rw [hcc] at hr; rw [(hr : u = _)]; rfl
  | s x => rw [hcc] at hr; rw [hr.1]; rfl
  | sl own e rows =>
    rw [hcc] at hr
    cases own with
    | true => exact OwnF.one hr
    | false => exact RdR.one (hr : RdR T _ _ _ _ _)
  | al q i' n => rw [hcc] at hset; cases hset
  | dead => rw [hcc] at hset; cases hset
def Env.clr (E : Env) (N : Nat) : Env := { E with bk := fun l j => if l = .slot N then noB else E.bk l j }
theorem clr_step {E : Env} : Step E (E.clr N) := by
  refine ⟨fun q => ⟨Nat.le_refl _, fun _ i => rfl⟩, fun _ _ => rfl, Keeps.refl _ _, fun b _ hb => ?_⟩
  rcases hb with hb | ⟨t, ht, rfl⟩ | ⟨l, j, hl⟩
  · exact .inl hb
  · exact .inr (.inl ⟨t, ht, rfl⟩)
  · simp only [Env.clr] at hl
    split at hl
    · cases hl
    · exact .inr (.inr ⟨l, j, hl⟩)
theorem clr_none {E : Env} (j b : Nat) : ¬ (E.clr N).bk (.slot N) j b := by
  intro h
  have h : (if Loc.slot N = Loc.slot N then noB else E.bk (.slot N) j) b := h
  rw [if_pos rfl] at h
  exact h
theorem Rel.clr {E : Env} (h : Rel T W N E) : Rel T W N (E.clr N) := by
  have bkc : ∀ {l j x}, (E.clr N).bk l j x → E.bk l j x := fun {l j x} hl => by
    simp only [Env.clr] at hl
    split at hl
    · cases hl
    · exact hl
  refine h.next clr_step h.base h.defers h.size (fun t => ?_) (fun t m j hm hj => .inl ⟨hm, rfl, rfl, rfl, by simp [Env.clr], fun _ _ => rfl⟩) h.bxlo h.bxinj (fun l j b hb => h.owlo l j b (bkc hb)) (fun l j l' j' b hb hb' => h.owinj _ _ _ _ _ (bkc hb) (bkc hb')) (fun l j b t hb ha => h.owbx _ _ _ _ (bkc hb) ha)
  by_cases e : t = N
  · subst e
    right
    exact (h.slot t).step clr_step (fun j ho => (h.ghostA ho).elim)
  · exact .inl ⟨rfl, rfl, fun j => ⟨by simp [Env.clr, e], fun _ _ => rfl⟩⟩
def zeroC : CT → CV
  | .i k => .i k 0
  | .b => .b false
  | .s => .s ByteArray.empty
  | .l e => .sl true e []
theorem zero_inK (k : IntKind) : inK k 0 := by cases k <;> exact ⟨by decide, by decide⟩
theorem zero_cellsR {E : Env} {cts : List CT} (he : ∀ e, CT.l e ∈ cts → (T e).isSome) (hbk : ∀ j b, ¬ E.bk (.slot N) j b) : CellsR T W E (.slot N) 0 (cts.map zeroC) (cts.map zeroV) := by
  refine ⟨by simp, fun i c u hc hu => ?_⟩
  rw [List.getElem?_map] at hc hu
  cases hct : cts[i]? with
  | none => rw [hct] at hc; cases hc
  | some ct =>
    rw [hct] at hc hu
    obtain rfl := Option.some.inj hc
    obtain rfl := Option.some.inj hu
    cases ct with
    | i k => exact ⟨rfl, zero_inK k⟩
    | b => rfl
    | s => exact ⟨rfl, Nat.zero_le _⟩
    | l e =>
      have := he e (List.mem_of_getElem? hct)
      cases hte : T e with
      | none => rw [hte] at this; cases this
      | some te => exact OwnF.nil hte (hbk _)
theorem zeroCells_eq {t : TypeId} {ty : Ty} (ok : TyOk P T t ty) : ∃ z, (zeroValue t).run P = (fun w => .ok z w) ∧ z.cells.toList = ty.cts.map zeroV ∧ ∃ i, P.info? t = some i ∧ i.zero = some z := by
  obtain ⟨i, h1, h2, h3, h4⟩ := ok.info
  refine ⟨_, funext fun w => by simp only [zeroValue, typeInfo, Sem.run_bind]; simp [h1, h4], ?_, i, h1, h4⟩
  cases hag : ty.agg with
  | true => simp [Value.cells]
  | false =>
    obtain ⟨c, hc, _⟩ := ok.one hag
    rw [hc]
    cases c <;> rfl
def putBox (N : Nat) (o : Oper) (cs : List CV) : Pg :=
  match o.dst with
  | some d => .get (.gen d) fun v =>
    match v.2 with
    | .num m => if m = cs.length then .lt d N (setBox d 0 cs (.set 1 (.gen d) (.num cs.length) (.set 1 (.slot d) (.ptr d (v.1 + 1) 0) .done))) else .fail
    | _ => .lt d N (setBox d 0 cs (.set 1 (.gen d) (.num cs.length) (.set 1 (.slot d) (.ptr d (v.1 + 1) 0) .done)))
  | none => .fail
theorem sound_box {E : Env} {o : Oper} {Q : St → Prop} {K : Act → World → Prop} {Qx : Exit → Act → World → Prop} {cs : List CV} {us : List Value} {et : TypeId} (h : Rel T W N E)
    (hrun : (execOp E.a.eval o).run P E.w = .ok (.value (.pointer (some ⟨E.w.heap.size, 0, none⟩))) (E.w.alloc (.cells us.toArray et))) (hc : CellsR T W E (.slot N) 0 cs us)
    (hw : (putBox N o cs).wp Q E.σ) (hK : ∀ E', Rel T W N E' → Q E'.σ → K E'.a E'.w) : o.wp P E.a E.w K Qx := by
  unfold Oper.wp
  rw [hrun, Oper.upon_value]
  unfold putBox at hw
  split at hw
  · rename_i d hd
    rw [hd]
    have fin : (∀ m, (E.σ (.gen d)).2 = .num m → m = cs.length) → (Pg.lt d N (setBox d 0 cs (.set 1 (.gen d) (.num cs.length) (.set 1 (.slot d) (.ptr d ((E.σ (.gen d)).1 + 1) 0) .done)))).wp Q E.σ → K (E.a.put (some d) (.pointer (some ⟨E.w.heap.size, 0, none⟩))) (E.w.alloc (.cells us.toArray et)) := by
      intro hold hw
      obtain ⟨hdN, hw⟩ := Pg.lt_wp hw
      rw [setBox_wp] at hw
      exact hK _ (h.made (b := d) hold hdN hc rfl) hw
    simp only [Pg.wp] at hw
    split at hw
    · rename_i m hm
      split at hw
      · rename_i hmc
        exact fin (fun m' hm' => by rw [hm] at hm'; simp only [SV.num.injEq] at hm'; omega) hw
      · exact hw.elim
    · rename_i hno
      exact fin (fun m' hm' => absurd hm' (hno m')) hw
  · exact hw.elim
def stepAlloc (T : Tab) (N : Nat) (o : Oper) (t : TypeId) : Pg :=
  match T t with
  | some ty => putBox N o (ty.cts.map zeroC)
  | none => .fail
theorem alloc_ok (hT : TabOk P T) {o : Oper} {t : TypeId} (ho : o.op = .alloc t) : OpOk P T W N o (stepAlloc T N o t) := by
  intro E Q K Qx h hw hK
  unfold stepAlloc at hw
  split at hw
  · rename_i ty hty
    have ok := hT t ty hty
    obtain ⟨z, hz1, hz2, _⟩ := zeroCells_eq ok
    refine sound_box (E := E.clr N) (us := ty.cts.map zeroV) (et := t) h.clr ?_ (zero_cellsR ok.elems clr_none) hw hK
    show (execOp E.a.eval o).run P E.w = _
    have hcells : z.cells = (ty.cts.map zeroV).toArray := by rw [← hz2]
    simp only [execOp, ho, Instr.alloc, Sem.run_bind, hz1, Result.andThen_ok, newVar, newRow, hcells]
    rfl
  · exact hw.elim
def stepBox (T : Tab) (N : Nat) (o : Oper) (t : TypeId) (x : Operand) : Pg :=
  match T t with
  | some ty => rdv x fun sv => match sv with
    | .val ag cs => if ag = ty.agg ∧ cs.length = ty.cts.length then movs cs fun cs' => putBox N o cs' else .fail
    | _ => .fail
  | none => .fail
theorem CellsR.cells1 {E : Env} {l : Loc} {c : CV} {u : Value} (h : CellsR T W E l 0 [c] [u]) (hs : c.set = true) : u.cells = #[u] := by
  have hr := h.2 0 c u rfl rfl
  cases c with
  | i k n => rw [hr.1]; rfl
  | b x => rw [(hr : u = _)]; rfl
  | s x => rw [hr.1]; rfl
  | sl own e rows =>
    cases own with
    | true => exact OwnF.cells hr
    | false => exact RdR.cells (hr : RdR T _ _ _ _ _)
  | al q i n => cases hs
  | dead => cases hs
theorem movs_val {E : Env} (h : Rel T W N E) {v : Value} {ag : Bool} {cs : List CV} {k : List CV → Pg} {Q : St → Prop} (hv : RelSV T W E (.slot N) v (.val ag cs)) (hf : cs.all CV.free = true) (hw : (movs cs k).wp Q E.σ) :
    ∃ E' cs' us, Rel T W N E' ∧ Same E E' ∧ CellsR T W E' (.slot N) 0 cs' us ∧ cs'.all CV.set = true ∧ v.cells = us.toArray ∧ (ag = true → v = .agg us.toArray) ∧ (ag = false → us = [v]) ∧ us.length = cs.length ∧ (k cs').wp Q E'.σ := by
  cases ag with
  | true =>
    obtain ⟨us, rfl, h2⟩ := hv.cellsR
    obtain ⟨E', cs', r1, s1, c1, t1, _, w1⟩ := movs_sound h h2 hf hw
    exact ⟨E', cs', us, r1, s1, c1, t1, rfl, fun _ => rfl, (fun h => by cases h), h2.1.symm, w1⟩
  | false =>
    obtain ⟨c, rfl, h2⟩ := hv
    have hc : CellsR T W E (.slot N) 0 [c] [v] := ⟨rfl, fun i c' u hc hu => by
      cases i with
      | zero =>
        obtain rfl := Option.some.inj hc
        obtain rfl := Option.some.inj hu
        exact h2
      | succ i => cases hc⟩
    obtain ⟨E', cs', r1, s1, c1, t1, _, w1⟩ := movs_sound h hc hf hw
    have hl := c1.1
    match cs', hl with
    | [c'], _ => exact ⟨E', [c'], [v], r1, s1, c1, t1, CellsR.cells1 c1 (by simpa using t1), (fun h => by cases h), fun _ => rfl, rfl, w1⟩
theorem box_ok {o : Oper} {t : TypeId} {x : Operand} (ho : o.op = .box t x) : OpOk P T W N o (stepBox T N o t x) := by
  intro E Q K Qx h hw hK
  unfold stepBox at hw
  split at hw
  · rename_i ty hty
    obtain ⟨sv, h1, f1, h3⟩ := rdv_sound h hw (.slot N)
    split at h3
    · rename_i ag cs
      split at h3
      · obtain ⟨E', cs', us, r1, s1, c1, t1, e1, _, _, el, w1⟩ := movs_val h h1 (cellsFree_of_free f1) h3
        refine s1.run (sound_box (et := t) r1 ?_ c1 w1 hK)
        rw [s1.a, s1.w]
        simp only [execOp, ho, Instr.box, Sem.run_bind, newVar, newRow, e1]
        rfl
      · exact h3.elim
    · exact h3.elim
  · exact hw.elim
def stepStore (T : Tab) (o : Oper) (t : TypeId) (x y : Operand) : Pg :=
  match o.dst, T t with
  | none, some ty => rdv x fun sx => rdv y fun sy => match sx, sy with
    | .ptr b g p, .val ag cs => if ag = ty.agg ∧ cs.length = ty.cts.length then movs cs fun cs' => .get (.gen b) fun v => if v.1 = g then match v.2 with
          | .num m => if p + cs'.length ≤ m then setBox b p cs' .done else .fail
          | _ => .fail
        else .fail
      else .fail
    | _, _ => .fail
  | _, _ => .fail
theorem run_store (hT : TabOk P T) {E : Env} {o : Oper} {t : TypeId} {x y : Operand} {ty : Ty} (ho : o.op = .store t x y) (hty : T t = some ty) {b p : Nat} (hx : E.a.eval x = .pointer (some ⟨b, p, none⟩))
    {us : List Value} (hy : (E.a.eval y).cells = us.toArray) (hn : us.length = ty.cts.length) (h1 : ∀ u ∈ us, u.oneCell' = true) (ht : E.w.there b p us.length) :
    (execOp E.a.eval o).run P E.w = .ok .skip (E.w.setCells b p us) := by
  have ok := hT t ty hty
  have hst := run_storeCells_cells (P := P) b p us 0 E.w (fun j hj => by simpa using (ht j hj).1) (fun j hj => by simpa using (ht j hj).2) h1
  simp only [Nat.add_zero] at hst
  obtain ⟨i, i1, i2, _⟩ := ok.info
  simp [execOp, ho, hx, Instr.storeAt, Instr.sureAddr, storeVar, hy, sizeOf, typeInfo, i1, i2, hn, hst]
theorem store_ok (hT : TabOk P T) {o : Oper} {t : TypeId} {x y : Operand} (ho : o.op = .store t x y) : OpOk P T W N o (stepStore T o t x y) := by
  intro E Q K Qx h hw hK
  unfold stepStore at hw
  split at hw
  · rename_i ty hd hty
    obtain ⟨sx, h1, _f1, h3⟩ := rdv_sound h hw (.slot N)
    obtain ⟨sy, h4, f4, h6⟩ := rdv_sound h h3 (.slot N)
    split at h6
    · rename_i b g p ag cs
      split at h6
      · rename_i hlen
        obtain ⟨E', cs', us, r1, s1, c1, t1, e1, _, _, el, w1⟩ := movs_val h h4 (cellsFree_of_free f4) h6
        have hx := RelSV.step_free (l := .slot N) (sv := .ptr b g p) h1 s1.step rfl
        simp only [Pg.wp] at w1
        split at w1
        · rename_i hg
          split at w1
          · rename_i m hm
            split at w1
            · rename_i hp
              refine s1.run ?_
              have hl : us.length = ty.cts.length := el.trans hlen.2
              have hrun := run_store hT ho hty (E := E') (by rw [s1.a]; exact hx.2 hg) (us := us) (by rw [s1.a]; exact e1) hl (c1.one t1) (fun j hj => by
                obtain ⟨c, v, e1', e2, e3, _⟩ := r1.cell b m (p + j) hm (by have := c1.1; omega)
                exact ⟨by rw [e2]; rfl, e3⟩)
              unfold Oper.wp
              rw [hrun, Oper.upon_skip, hd]
              rw [setBox_wp] at w1
              exact hK _ (r1.stored hm hp c1) w1
            · exact w1.elim
          · exact w1.elim
        · exact w1.elim
      · exact h6.elim
    · exact h6.elim
  · exact hw.elim
end Go.Proofs.YtaecbmjmcpdgdaaGreat.Ab
namespace Go.Proofs.YtaecbmjmcpdgdaaGreat.Ab
open Go.RowKit
variable {P : Program} {T : Tab} {W : Base} {N : Nat}
def stepStoreNil (T : Tab) (o : Oper) (t : TypeId) (x : Operand) : Pg :=
  match o.dst, elemT T t with
  | none, some (e, _) => rdv x fun sx => match sx with
    | .ptr b g p => .get (.gen b) fun v => if v.1 = g then match v.2 with
          | .num m => if p + 1 ≤ m then setBox b p [.sl true e []] .done else .fail
          | _ => .fail
        else .fail
    | _ => .fail
  | _, _ => .fail
theorem storeNil_ok (hT : TabOk P T) {o : Oper} {t : TypeId} {x : Operand} (ho : o.op = .store t x (.const (.slice none 0 0))) : OpOk P T W N o (stepStoreNil T o t x) := by
  intro E Q K Qx h hw hK
  unfold stepStoreNil at hw
  split at hw
  · rename_i e te hd ht
    obtain ⟨hu, hte, hTe⟩ := elemT_spec hT ht
    obtain ⟨sx, h1, _f1, h3⟩ := rdv_sound h hw (.slot N)
    split at h3
    · rename_i b g p
      simp only [Pg.wp] at h3
      split at h3
      · rename_i hg
        split at h3
        · rename_i m hm
          split at h3
          · rename_i hp
            have hc : CellsR T W (E.clr N) (.slot N) 0 [.sl true e []] [.slice none 0 0] := ⟨rfl, fun i c u hc hu => by
              cases i with
              | zero =>
                obtain rfl := Option.some.inj hc
                obtain rfl := Option.some.inj hu
                exact OwnF.nil hTe (clr_none _)
              | succ i => cases hc⟩
            have hty : ∃ ty, T t = some ty ∧ ty.cts.length = 1 := by
              unfold elemT at ht
              split at ht
              · rename_i ty hty
                split at ht
                · rename_i e' hag hcts
                  exact ⟨ty, hty, by rw [hcts]; rfl⟩
                · cases ht
              · cases ht
            obtain ⟨ty, hty, hlen⟩ := hty
            have hrun := run_store hT ho hty (E := E.clr N) (b := E.β b) (p := p) (h1.2 hg) (us := [.slice none 0 0]) rfl (by rw [hlen]; rfl) (by simp [Value.oneCell']) (fun j hj => by
              obtain ⟨c, v, e1', e2, e3, _⟩ := h.cell b m (p + j) hm (by simp at hj; omega)
              exact ⟨by show (E.w.cell? _).isSome = true; rw [e2]; rfl, e3⟩)
            unfold Oper.wp
            have hrun' : (execOp E.a.eval o).run P E.w = .ok .skip (E.w.setCells (E.β b) p [.slice none 0 0]) := hrun
            rw [hrun', Oper.upon_skip, hd]
            rw [setBox_wp] at h3
            exact hK _ (h.clr.stored (b := b) (p := p) (cs := [.sl true e []]) hm hp hc) h3
          · exact h3.elim
        · exact h3.elim
      · exact h3.elim
    · exact h3.elim
  · exact hw.elim
theorem foldl_seg : ∀ (seg : List Value) (i off : Nat) (cells : Array Value), off + i + seg.length ≤ cells.size →
    ((seg.zipIdx i).foldl (fun cs (x : Value × Nat) => cs.setIfInBounds (off + x.2) x.1) cells).toList = cells.toList.take (off + i) ++ seg ++ cells.toList.drop (off + i + seg.length)
  | [], i, off, cells, h => by simp
  | v :: r, i, off, cells, h => by
    simp only [List.zipIdx_cons, List.foldl_cons]
    have hlt : off + i < cells.size := by simp at h; omega
    have := foldl_seg r (i + 1) off (cells.setIfInBounds (off + i) v) (by simp at h ⊢; omega)
    rw [this]
    simp only [Array.toList_setIfInBounds, List.length_cons]
    rw [show off + (i + 1) = off + i + 1 by omega, show off + i + 1 + r.length = off + i + (r.length + 1) by omega]
    rw [List.drop_set_of_lt (by omega)]
    have ht : (cells.toList.set (off + i) v).take (off + i + 1) = cells.toList.take (off + i) ++ [v] := by
      rw [List.take_add_one, List.take_set_of_le (Nat.le_refl _), List.getElem?_set_self (by simpa using hlt)]
      rfl
    rw [ht]
    simp [List.append_assoc]
theorem fill_seg (v : Value) (off : Nat) (cells : Array Value) (h : off + v.cells.size ≤ cells.size) :
    (v.cells.zipIdx.foldl (fun cs (x : Value × Nat) => cs.setIfInBounds (off + x.2) x.1) cells).toList = cells.toList.take off ++ v.cells.toList ++ cells.toList.drop (off + v.cells.size) := by
  have := foldl_seg v.cells.toList 0 off cells (by simpa using h)
  rw [← Array.foldl_toList, Array.toList_zipIdx]
  simpa using this
def overlay {α : Type} (l : List α) (off : Nat) (seg : List α) : List α := l.take off ++ seg ++ l.drop (off + seg.length)
theorem overlay_length {α : Type} (l : List α) (off : Nat) (seg : List α) (h : off + seg.length ≤ l.length) : (overlay l off seg).length = l.length := by
  simp [overlay]; omega
theorem overlay_get {α : Type} (l : List α) (off : Nat) (seg : List α) (h : off + seg.length ≤ l.length) (i : Nat) :
    (overlay l off seg)[i]? = if off ≤ i ∧ i < off + seg.length then seg[i - off]? else l[i]? := by
  unfold overlay
  have ho : off ≤ l.length := by omega
  by_cases h1 : i < off
  · rw [if_neg (by omega), List.append_assoc, List.getElem?_append_left (by simp; omega), List.getElem?_take, if_pos h1]
  · by_cases h2 : i < off + seg.length
    · rw [if_pos ⟨by omega, h2⟩, List.getElem?_append_left (by simp; omega), List.getElem?_append_right (by simp; omega)]
      simp [Nat.min_eq_left ho]
    · rw [if_neg (by omega), List.getElem?_append_right (by simp; omega)]
      simp only [List.length_append, List.length_take, Nat.min_eq_left ho, List.getElem?_drop]
      congr 1; omega
theorem CellsR.overlay {E : Env} {cs : List CV} {us : List Value} {l : Loc} {off : Nat} {seg : List CV} {vs : List Value} (h : CellsR T W E l 0 cs us) (hs : CellsR T W E l off seg vs) (ho : off + seg.length ≤ cs.length) :
    CellsR T W E l 0 (Ab.overlay cs off seg) (Ab.overlay us off vs) := by
  have hl := hs.1
  have hl' := h.1
  refine ⟨by rw [overlay_length _ _ _ ho, overlay_length _ _ _ (by omega)]; exact h.1, fun i c u hc hu => ?_⟩
  rw [overlay_get _ _ _ ho] at hc
  rw [overlay_get _ _ _ (by omega)] at hu
  rw [← hl] at hu
  split at hc
  · rename_i hin
    rw [if_pos hin] at hu
    have := hs.2 (i - off) c u hc hu
    rwa [show off + (i - off) = 0 + i by omega] at this
  · rename_i hin
    rw [if_neg hin] at hu
    exact h.2 i c u hc hu
def buildGo (offs : List (Nat × Nat)) (k : List CV → Pg) : List (Nat × Operand) → List CV → Pg
  | [], acc => k acc
  | (f, x) :: r, acc => match offs[f]? with
    | some (off, sz) => rdv x fun sv => match sv with
      | .val _ cs => if cs.length = sz ∧ off + sz ≤ acc.length then movs cs fun cs' => buildGo offs k r (overlay acc off cs') else .fail
      | _ => .fail
    | none => .fail
def stepBuild (T : Tab) (N : Nat) (o : Oper) (t : TypeId) (parts : List (Nat × Operand)) : Pg :=
  match T t with
  | some ty => if ty.agg = true then buildGo ty.offs (fun cs => dstSet N o (.val true cs)) parts (ty.cts.map zeroC) else .fail
  | none => .fail
theorem movs_at {E : Env} (h : Rel T W N E) {v : Value} {ag : Bool} {cs : List CV} {k : List CV → Pg} {Q : St → Prop} (off : Nat) (hv : RelSV T W E (.slot N) v (.val ag cs)) (hf : cs.all CV.free = true) (hw : (movs cs k).wp Q E.σ) :
    ∃ E' cs' us, Rel T W N E' ∧ Same E E' ∧ CellsR T W E' (.slot N) off cs' us ∧ cs'.all CV.set = true ∧ v.cells = us.toArray ∧ us.length = cs.length ∧ (∀ j', j' < off ∨ off + cs.length ≤ j' → E'.bk (.slot N) j' = E.bk (.slot N) j') ∧ (k cs').wp Q E'.σ := by
  have shift : ∀ {us : List Value}, CellsR T W E (.slot N) 0 cs us → CellsR T W E (.slot N) off cs us := fun {us} hc =>
    ⟨hc.1, fun i c u hc' hu => (hc.2 i c u hc' hu).any (fun e rows he => by
      have := List.all_eq_true.1 hf c (List.mem_of_getElem? hc')
      rw [he] at this; cases this)⟩
  cases ag with
  | true =>
    obtain ⟨us, rfl, h2⟩ := hv.cellsR
    obtain ⟨E', cs', r1, s1, c1, t1, b1, w1⟩ := movs_sound h (shift h2) hf hw
    exact ⟨E', cs', us, r1, s1, c1, t1, rfl, h2.1.symm, b1, w1⟩
  | false =>
    obtain ⟨c, rfl, h2⟩ := hv
    have hc : CellsR T W E (.slot N) 0 [c] [v] := ⟨rfl, fun i c' u hc hu => by
      cases i with
      | zero =>
        obtain rfl := Option.some.inj hc
        obtain rfl := Option.some.inj hu
        exact h2
      | succ i => cases hc⟩
    obtain ⟨E', cs', r1, s1, c1, t1, b1, w1⟩ := movs_sound h (shift hc) hf hw
    have hl := c1.1
    match cs', hl with
    | [c'], _ =>
      have hr := c1.2 0 c' v rfl rfl
      refine ⟨E', [c'], [v], r1, s1, c1, t1, ?_, rfl, b1, w1⟩
      have hs : c'.set = true := by simpa using t1
      cases c' with
      | i k n => rw [hr.1]; rfl
      | b x => rw [(hr : v = _)]; rfl
      | s x => rw [hr.1]; rfl
      | sl own e rows =>
        cases own with
        | true => exact OwnF.cells hr
        | false => exact RdR.cells (hr : RdR T _ _ _ _ _)
      | al q i n => cases hs
      | dead => cases hs
theorem buildGo_sound {offs : List (Nat × Nat)} {k : List CV → Pg} {Q : St → Prop} {places : Nat → Option (Nat × Nat)} (hp : ∀ (f off sz : Nat), offs[f]? = some (off, sz) → places f = some (off, sz)) :
    ∀ {parts : List (Nat × Operand)} {E : Env} {acc : List CV} {us : List Value}, Rel T W N E → CellsR T W E (.slot N) 0 acc us → (buildGo offs k parts acc).wp Q E.σ →
    ∃ E' acc' us', Rel T W N E' ∧ Same E E' ∧ CellsR T W E' (.slot N) 0 acc' us' ∧ Instr.fill places us.toArray (parts.map fun (i, x) => (i, E.a.eval x)) = some us'.toArray ∧ (k acc').wp Q E'.σ
  | [], E, acc, us, h, hc, hw => ⟨E, acc, us, h, .refl E, hc, rfl, hw⟩
  | (f, x) :: r, E, acc, us, h, hc, hw => by
    simp only [buildGo] at hw
    split at hw
    · rename_i off sz hoff
      obtain ⟨sv, h1, f1, h3⟩ := rdv_sound h hw (.slot N)
      split at h3
      · rename_i ag cs
        split at h3
        · rename_i hlen
          obtain ⟨E1, cs', vs, r1, s1, c1, t1, e1, el, b1, w1⟩ := movs_at h off h1 (cellsFree_of_free f1) h3
          have hl1 := c1.1
          have hl0 := hc.1
          have hacc : CellsR T W E1 (.slot N) 0 (overlay acc off cs') (overlay us off vs) := by
            refine ⟨by rw [overlay_length _ _ _ (by omega), overlay_length _ _ _ (by omega)]; exact hc.1, fun i c u hc' hu => ?_⟩
            rw [overlay_get _ _ _ (by omega)] at hc'
            rw [overlay_get _ _ _ (by omega)] at hu
            rw [← hl1] at hu
            split at hc'
            · rename_i hin
              rw [if_pos hin] at hu
              have := c1.2 (i - off) c u hc' hu
              rwa [show off + (i - off) = 0 + i by omega] at this
            · rename_i hin
              rw [if_neg hin] at hu
              exact (hc.2 i c u hc' hu).step s1.step (fun e rows he => ⟨b1 _ (by omega), fun _ _ => by rw [s1.w]⟩)
          obtain ⟨E2, acc', us', r2, s2, c2, e2, w2⟩ := buildGo_sound hp r1 hacc w1
          refine ⟨E2, acc', us', r2, s1.trans s2, c2, ?_, w2⟩
          have hsz : (E.a.eval x).cells.size = sz := by rw [e1]; simp; omega
          simp only [List.map_cons, Instr.fill, hp f off sz hoff]
          rw [if_neg (by rw [hsz]; simp; omega)]
          have hfold := fill_seg (E.a.eval x) off us.toArray (by rw [hsz]; simp; omega)
          have : (E.a.eval x).cells.zipIdx.foldl (fun cs (x : Value × Nat) => cs.setIfInBounds (off + x.2) x.1) us.toArray = (overlay us off vs).toArray := by
            apply Array.ext'
            rw [hfold, e1]
            simp [overlay]
          rw [s1.a] at e2
          exact (congrArg (fun z => Instr.fill places z _) this).trans e2
        · exact h3.elim
      · exact h3.elim
    · exact hw.elim
theorem mapM_run {α β : Type} (f : α → Sem β) (g : α → β) (w : World) : ∀ (l : List α), (∀ a ∈ l, (f a).run P w = .ok (g a) w) → (l.mapM f).run P w = .ok (l.map g) w
  | [], _ => rfl
  | a :: r, h => by
    rw [List.mapM_cons]
    simp only [Sem.run_bind, h a (by simp), Result.andThen_ok, mapM_run f g w r (fun b hb => h b (by simp [hb]))]
    rfl
theorem build_ok (hT : TabOk P T) {o : Oper} {t : TypeId} {parts : Array (Nat × Operand)} (ho : o.op = .build t parts) : OpOk P T W N o (stepBuild T N o t parts.toList) := by
  intro E Q K Qx h hw hK
  unfold stepBuild at hw
  split at hw
  · rename_i ty hty
    split at hw
    · rename_i hag
      have ok := hT t ty hty
      obtain ⟨z, hz1, hz2, _⟩ := zeroCells_eq ok
      obtain ⟨fs, hu, hsz, hfs⟩ := ok.str hag
      have hzc : z.cells = (ty.cts.map zeroV).toArray := by rw [← hz2]
      have hpl : ∀ (f off sz : Nat), ty.offs[f]? = some (off, sz) → (fs.map fun fd => (fd.offset, P.cellsOf fd.type))[f]? = some (off, sz) := fun f off sz hf => by
        obtain ⟨fd, a1, a2, a3, _⟩ := hfs f off sz hf
        simp [a1, a2, a3]
      obtain ⟨E', acc', us', r1, s1, c1, e1, w1⟩ := buildGo_sound (places := fun i => (fs.map fun fd => (fd.offset, P.cellsOf fd.type))[i]?) hpl h.clr (zero_cellsR ok.elems clr_none) hw
      have s0 : Same E (E.clr N) := ⟨rfl, rfl, rfl, clr_step⟩
      refine (s0.trans s1).run (sound_value r1 (v := .agg us'.toArray) ?_ c1.relSV w1 hK)
      rw [s1.a, s1.w]
      show (execOp E.a.eval o).run P E.w = .ok _ E.w
      have hplaces : (fs.mapM fun f => (do pure (f.offset, ← sizeOf f.type) : Sem (Nat × Nat))).run P E.w = .ok (fs.map fun fd => (fd.offset, P.cellsOf fd.type)) E.w := by
        rw [Array.mapM_eq_mapM_toList]
        have := mapM_run (P := P) (fun f : Field => (do pure (f.offset, ← sizeOf f.type) : Sem (Nat × Nat))) (fun fd => (fd.offset, P.cellsOf fd.type)) E.w fs.toList (fun fd hfd => by
          obtain ⟨i, hi⟩ := List.getElem?_of_mem hfd
          have hlt : i < ty.offs.length := by rw [← hsz]; have := (List.getElem?_eq_some_iff.1 hi).1; simpa using this
          obtain ⟨fd', a1, a2, a3, a4⟩ := hfs i _ _ (List.getElem?_eq_getElem hlt)
          have : fd' = fd := by
            have h2 : fs[i]? = some fd := by simpa using hi
            exact Option.some.inj (a1.symm.trans h2)
          subst this
          have hinfo : ∃ inf, P.info? fd'.type = some inf := by
            cases hinf : P.info? fd'.type with
            | none => rw [← a3] at a4; simp [Program.cellsOf, hinf] at a4
            | some inf => exact ⟨inf, rfl⟩
          obtain ⟨inf, hinf⟩ := hinfo
          simp [sizeOf, typeInfo, hinf, Program.cellsOf])
        simp only [map_eq_pure_bind, Sem.run_bind, this, Result.andThen_ok, Sem.run_pure]
        congr 1
        rw [← Array.toList_map]
      simp only [execOp, ho, Instr.build, Sem.run_bind, hz1, Result.andThen_ok, run_underlying hu, hplaces, hzc]
      have e1' : Instr.fill (fun x => (fs.map fun fd => (fd.offset, P.cellsOf fd.type))[x]?) (ty.cts.map zeroV).toArray (parts.map fun (i, x) => (i, E.a.eval x)).toList = some us'.toArray := by
        rw [Array.toList_map]; exact e1
      rw [e1']
      rfl
    · exact hw.elim
  · exact hw.elim
end Go.Proofs.YtaecbmjmcpdgdaaGreat.Ab
namespace Go.Proofs.YtaecbmjmcpdgdaaGreat.Ab
open Go.RowKit
variable {P : Program} {T : Tab} {W : Base} {N : Nat}
theorem setCells_heap (g : Nat) (e : TypeId) (fr : Nat × Nat) : ∀ (us : List Value) (o : Nat) (w : World) (cur : Array Value), w.heap[g]? = some (.cells cur e fr) → o + us.length ≤ cur.size →
    ∃ cur' : Array Value, (w.setCells g o us).heap[g]? = some (.cells cur' e fr) ∧ cur'.toList = overlay cur.toList o us
  | [], o, w, cur, h, hl => ⟨cur, h, by simp [overlay]⟩
  | u :: r, o, w, cur, h, hl => by
    have h1 : (w.setCell ⟨g, o, none⟩ u).heap[g]? = some (.cells (cur.setIfInBounds o u) e fr) := by
      simp [World.setCell, Array.getElem?_modify, h]
    obtain ⟨cur', a1, a2⟩ := setCells_heap g e fr r (o + 1) _ _ h1 (by simp at hl ⊢; omega)
    refine ⟨cur', a1, ?_⟩
    rw [a2]
    have hlt : o < cur.toList.length := by simp at hl ⊢; omega
    unfold overlay
    simp only [Array.toList_setIfInBounds, List.length_cons]
    rw [List.drop_set_of_lt (by omega)]
    have ht : (cur.toList.set o u).take (o + 1) = cur.toList.take o ++ [u] := by
      rw [List.take_add_one, List.take_set_of_le (Nat.le_refl _), List.getElem?_set_self hlt]
      rfl
    rw [ht, show o + 1 + r.length = o + (r.length + 1) by omega]
    simp [List.append_assoc]
def pokeRow (rows : List (List D)) (k p : Nat) (ds : List D) : List (List D) := rows.set k (overlay (rows.getD k []) p ds)
def Env.poke (E : Env) (q : Loc) (ag : Bool) (cs : List CV) (j : Nat) (e : TypeId) (rows : List (List D)) (w' : World) : Env :=
  { E with σ := updm E.σ q (.val ag (cs.set j (.sl true e rows))), w := w' }
theorem Rel.poke {E : Env} (h : Rel T W N E) {q : Loc} {ag : Bool} {cs : List CV} {j g k p : Nat} {e : TypeId} {te : Ty} {rows : List (List D)} {us : List Value} {ds : List D} {v : Value} (hq : (E.σ q).2 = .val ag cs) (hj : cs[j]? = some (.sl true e rows))
    (hat : E.at_ q j = some v) (hr : RelCV T W E q j v (.sl true e rows)) (hdp : dpT T e = false) (hte : T e = some te) (hg : v.ownBlock = some g) (hk : k < rows.length) (hp : p + us.length ≤ te.cts.length) (hus : ds.length = us.length)
    (hd : ∀ (i : Nat) ct u d, te.cts[p + i]? = some ct → us[i]? = some u → ds[i]? = some d → RdR T E.w E.X ct u d) :
    Rel T W N (E.poke q ag cs j e (pokeRow rows k p ds) (E.w.setCells g (k * te.cts.length + p) us)) := by
  obtain ⟨f1, f2, f3, f4, f5⟩ := setCells_frame g us (k * te.cts.length + p) E.w
  generalize hw' : E.w.setCells g (k * te.cts.length + p) us = w' at *
  have hrb := (OwnF.own hr hdp).2
  have hbk : E.bk q j g := (hrb g).2 hg
  obtain ⟨⟨ty, xs, o1, o2, o3, o4⟩, _⟩ := OwnF.own hr hdp
  rw [hte] at o1
  obtain rfl := Option.some.inj o1
  have hne : ∀ t, E.alive t → g ≠ E.β t := fun t ha => h.owbx q j g t hbk ha
  have hgl := h.owlo q j g hbk
  have σq : ((E.poke q ag cs j e (pokeRow rows k p ds) w').σ q) = ((E.σ q).1, .val ag (cs.set j (.sl true e (pokeRow rows k p ds)))) := by show updw 0 _ _ _ _ = _; simp [updw]
  have σo : ∀ {l}, l ≠ q → (E.poke q ag cs j e (pokeRow rows k p ds) w').σ l = E.σ l := fun {l} hl => by show updw 0 _ _ _ _ = _; simp [updw, hl]
  have gen_eq : ∀ t m, ((E.poke q ag cs j e (pokeRow rows k p ds) w').σ (.gen t)).2 = .num m ↔ (E.σ (.gen t)).2 = .num m := fun t m => by
    by_cases e' : Loc.gen t = q
    · rw [e', σq, hq]; simp
    · rw [σo e']
  have hal : ∀ t, (E.poke q ag cs j e (pokeRow rows k p ds) w').alive t ↔ E.alive t := fun t => ⟨fun ⟨m, hm⟩ => ⟨m, (gen_eq t m).1 hm⟩, fun ⟨m, hm⟩ => ⟨m, (gen_eq t m).2 hm⟩⟩
  have hX : ∀ b, (E.poke q ag cs j e (pokeRow rows k p ds) w').X b → E.X b := fun b hb => by
    rcases hb with hb | ⟨t, ht, rfl⟩ | ⟨l, i, hl⟩
    · exact .inl hb
    · exact .inr (.inl ⟨t, (hal t).1 ht, rfl⟩)
    · exact .inr (.inr ⟨l, i, hl⟩)
  have s : Step E (E.poke q ag cs j e (pokeRow rows k p ds) w') := by
    refine ⟨fun l => ?_, fun t _ => rfl, ⟨by show E.w.heap.size ≤ w'.heap.size; rw [f4]; exact Nat.le_refl _, fun b _ hn => f5 b (fun hb => hn (.inr (.inr ⟨q, j, by rw [hb]; exact hbk⟩)))⟩, fun b _ hb => hX b hb⟩
    have hver : ((E.poke q ag cs j e (pokeRow rows k p ds) w').σ l).1 = (E.σ l).1 := by
      by_cases e' : l = q
      · rw [e', σq]
      · rw [σo e']
    refine ⟨by rw [hver]; exact Nat.le_refl _, fun _ i => ?_⟩
    cases l with
    | slot t => rfl
    | gen t => rfl
    | cell t i' => exact Env.cellAt_congr (fun m => gen_eq t m) (fun m hm => World.cell?_of_block (w := E.w) (f5 _ (fun hb => hne t ⟨m, hm⟩ hb.symm)))
  have hoth : ∀ l i b, ¬ (l = q ∧ i = j) → E.bk l i b → w'.heap[b]? = E.w.heap[b]? := fun l i b hn hb => f5 b (fun hbg => by
    subst hbg
    exact hn ⟨(h.owinj _ _ _ _ _ hb hbk).1, (h.owinj _ _ _ _ _ hb hbk).2⟩)
  have hnew : RelCV T W (E.poke q ag cs j e (pokeRow rows k p ds) w') q j v (.sl true e (pokeRow rows k p ds)) := by
    refine OwnF.of_own hdp ?_ hrb
    rcases o2.2 with ⟨rfl, _⟩ | ⟨g', cap, cur, rfl, e2, e3, e4, e5, e6, e7⟩
    · simp [Value.ownBlock] at hg
    · have : g' = g := by simpa [Value.ownBlock] using hg
      subst this
      have hxl : xs.length = rows.length * te.cts.length := o2.1
      have hkc : (k + 1) * te.cts.length ≤ rows.length * te.cts.length := Nat.mul_le_mul_right _ hk
      have hcap : rows.length * te.cts.length ≤ cap * te.cts.length := Nat.mul_le_mul_right _ e4
      rw [Nat.succ_mul] at hkc
      obtain ⟨cur', c1, c2⟩ := setCells_heap g' e (0, 0) us (k * te.cts.length + p) E.w cur e3 (by rw [e6]; omega)
      rw [hw'] at c1
      have hlr : (pokeRow rows k p ds).length = rows.length := by simp [pokeRow]
      have hrowk : rows[k]? = some (rows.getD k []) := by simp [List.getD_eq_getElem?_getD, List.getElem?_eq_getElem hk]
      have hrl : (rows.getD k []).length = te.cts.length := o3 k _ hrowk
      have hcl : cur'.toList.length = cur.toList.length := by rw [c2]; exact overlay_length _ _ _ (by simp [e6]; omega)
      refine ⟨te, overlay xs (k * te.cts.length + p) us, hte, ⟨by rw [overlay_length _ _ _ (by omega), hlr]; exact hxl, .inr ⟨g', cap, cur', by rw [hlr], e2, c1, by rw [hlr]; exact e4, e5, by simpa [e6] using hcl, ?_⟩⟩, fun k' row hk' => ?_, fun k' j' ct d row hk' hct hd' => ?_⟩
      · rw [hlr, c2]
        apply List.ext_getElem?
        intro i
        rw [List.getElem?_take, overlay_get _ _ _ (by simp [e6]; omega), overlay_get _ _ _ (by omega), ← e7, List.getElem?_take]
        by_cases hi : i < rows.length * te.cts.length
        · simp [hi]
        · simp only [hi, if_false]
          split
          · omega
          · rfl
      · unfold pokeRow at hk'
        rw [List.getElem?_set] at hk'
        split at hk'
        · obtain rfl := Option.some.inj hk'
          rw [overlay_length _ _ _ (by omega)]; exact hrl
        · exact o3 k' row hk'
      · have hj' := (List.getElem?_eq_some_iff.1 hct).1
        unfold pokeRow at hk'
        rw [List.getElem?_set] at hk'
        have mv : ∀ {u}, RdR T E.w E.X ct u d → RdR T (E.poke q ag cs j e (pokeRow rows k p ds) w').w (E.poke q ag cs j e (pokeRow rows k p ds) w').X ct u d := fun hr' => hr'.move s.keep s.less
        split at hk'
        · rename_i hkk
          subst hkk
          obtain rfl := Option.some.inj hk'
          rw [overlay_get _ _ _ (by omega)] at hd' ⊢
          by_cases hin : p ≤ j' ∧ j' < p + ds.length
          · rw [if_pos hin] at hd'
            rw [if_pos ⟨by omega, by omega⟩]
            have hu : j' - p < us.length := by omega
            refine ⟨us[j' - p], by rw [show k * te.cts.length + j' - (k * te.cts.length + p) = j' - p by omega]; exact List.getElem?_eq_getElem hu, mv (hd (j' - p) ct _ d (by rw [show p + (j' - p) = j' by omega]; exact hct) (List.getElem?_eq_getElem hu) hd')⟩
          · rw [if_neg hin] at hd'
            rw [if_neg (by omega)]
            obtain ⟨u, hu, hr'⟩ := o4 k j' ct d _ hrowk hct hd'
            exact ⟨u, hu, mv hr'⟩
        · rename_i hkk
          have hk'l := (List.getElem?_eq_some_iff.1 hk').1
          obtain ⟨u, hu, hr'⟩ := o4 k' j' ct d row hk' hct hd'
          refine ⟨u, ?_, mv hr'⟩
          rw [overlay_get _ _ _ (by omega), if_neg ?_]
          · exact hu
          · intro ⟨a1, a2⟩
            rcases Nat.lt_or_gt_of_ne hkk with h1 | h1
            · have : (k + 1) * te.cts.length ≤ k' * te.cts.length := Nat.mul_le_mul_right _ h1
              rw [Nat.succ_mul] at this
              omega
            · have : (k' + 1) * te.cts.length ≤ k * te.cts.length := Nat.mul_le_mul_right _ h1
              rw [Nat.succ_mul] at this
              omega
  refine h.next s ?_ h.defers h.size (fun t => ?_) (fun t m i hm hi => ?_) (fun t ha => by show _ ∧ _ < w'.heap.size; rw [f4]; exact h.bxlo t ((hal t).1 ha)) (fun t t' ha ha' he => h.bxinj t t' ((hal t).1 ha) ((hal t').1 ha') he) (fun l i b hb => by show _ ∧ _ < w'.heap.size; rw [f4]; exact h.owlo l i b hb) h.owinj (fun l i b t hb ha => h.owbx l i b t hb ((hal t).1 ha))
  · exact h.base.next f1 f2 f3 (by show _ ≤ w'.heap.size; rw [f4]; exact Nat.le_refl _) (fun k' hk' hn => f5 k' (fun e' => hn (e' ▸ (h.owlo q j g hbk).1)))
  · by_cases e' : Loc.slot t = q
    · right
      have h0 := h.slot t
      rw [e'] at h0 ⊢
      rw [σq]
      rw [hq] at h0
      have hatt : ∀ i, E.at_ q i = (E.a.tmps.getD t undef).cells[i]? := fun i => by rw [← e']; rfl
      cases ag with
      | true =>
        obtain ⟨arr, h1, h2, h3⟩ := h0
        refine ⟨arr, h1, by simpa using h2, fun i c' hc' => ?_⟩
        rw [List.getElem?_set] at hc'
        split at hc'
        · rename_i hij
          subst hij
          split at hc'
          · obtain rfl := Option.some.inj hc'
            refine ⟨v, ?_, hnew⟩
            have := hatt j
            rw [hat, h1] at this
            exact this.symm
          · cases hc'
        · rename_i hij
          obtain ⟨u, hu, hru⟩ := h3 i c' hc'
          exact ⟨u, hu, hru.step s (fun e'' rows'' _ => ⟨rfl, fun b hb => hoth q i b (fun hh => hij hh.2.symm) hb⟩)⟩
      | false =>
        obtain ⟨c0, rfl, h2⟩ := h0
        cases j with
        | zero =>
          obtain rfl : c0 = .sl true e rows := Option.some.inj hj
          refine ⟨_, rfl, ?_⟩
          have := hatt 0
          rw [hat, h2.cells1] at this
          obtain rfl : v = E.a.tmps.getD t undef := by simpa using this
          exact hnew
        | succ j => cases hj
    · left
      exact ⟨by rw [σo e'], rfl, fun i => ⟨rfl, fun b hb => hoth _ i b (fun hh => e' hh.1) hb⟩⟩
  · have hm' := (gen_eq t m).1 hm
    have ha : E.alive t := ⟨m, hm'⟩
    have hblk : w'.heap[E.β t]? = E.w.heap[E.β t]? := f5 _ (fun hb => hne t ha hb.symm)
    by_cases e' : Loc.cell t i = q
    · right
      obtain ⟨c0, v0, e1, e2, e3, e4⟩ := h.cell t m i hm' hi
      rw [e'] at e1 ⊢
      rw [hq] at e1
      simp only [SV.val.injEq] at e1
      obtain ⟨rfl, rfl⟩ := e1
      cases j with
      | zero =>
        refine ⟨_, v0, by rw [σq]; rfl, (World.cell?_of_block (w := E.w) hblk).trans e2, (World.frozen?_of_block (w := E.w) hblk).trans e3, ?_⟩
        have : E.at_ q 0 = some v0 := by rw [← e', Env.at_cell hm' hi]; exact e2
        rw [hat] at this
        obtain rfl := Option.some.inj this
        exact hnew
      | succ j => cases hj
    · left
      exact ⟨hm', by rw [σo e'], World.cell?_of_block (w := E.w) hblk, World.frozen?_of_block (w := E.w) hblk, rfl, fun b hb => hoth _ _ b (fun hh => e' hh.1) hb⟩
end Go.Proofs.YtaecbmjmcpdgdaaGreat.Ab
namespace Go.Proofs.YtaecbmjmcpdgdaaGreat.Ab
open Go.RowKit
variable {P : Program} {T : Tab} {W : Base} {N : Nat}
def rowsGo (cts : List CT) (k : List (List D) → Pg) : List (Nat × Operand) → Nat → List (List D) → Pg
  | [], _, acc => k acc
  | (j, x) :: r, i, acc => if j = i then rdv x fun sv => match sv with
      | .val _ cs => pubs cs fun cs' => match toDs cts cs' with
        | some ds => rowsGo cts k r (i + 1) (acc ++ [ds])
        | none => .fail
      | _ => .fail
    else .fail
def RowsR (T : Tab) (E : Env) (cts : List CT) (rows : List (List D)) (us : List Value) : Prop :=
  (∀ (k : Nat) (row : List D), rows[k]? = some row → row.length = cts.length) ∧
  ∀ (k j : Nat) ct d (row : List D), rows[k]? = some row → cts[j]? = some ct → row[j]? = some d → ∃ u, us[k * cts.length + j]? = some u ∧ RdR T E.w E.X ct u d
theorem RowsR.same {E E' : Env} {cts : List CT} {rows : List (List D)} {us : List Value} (h : RowsR T E cts rows us) (s : Step E E') : RowsR T E' cts rows us :=
  ⟨h.1, fun k j ct d row a b c => let ⟨u, hu, hr⟩ := h.2 k j ct d row a b c; ⟨u, hu, hr.move s.keep s.less⟩⟩
theorem pubs_val {E : Env} (h : Rel T W N E) {v : Value} {ag : Bool} {cs : List CV} {k : List CV → Pg} {Q : St → Prop} (hv : RelSV T W E (.slot N) v (.val ag cs)) (hf : cs.all CV.free = true) (hw : (pubs cs k).wp Q E.σ) :
    ∃ E' cs' us, Rel T W N E' ∧ Same E E' ∧ CellsR T W E' (.slot N) 0 cs' us ∧ cs'.all CV.set = true ∧ cs'.all CV.free = true ∧ v.cells = us.toArray ∧ us.length = cs.length ∧ (ag = true → v = .agg us.toArray) ∧ (ag = false → us = [v]) ∧ (k cs').wp Q E'.σ := by
  cases ag with
  | true =>
    obtain ⟨us, rfl, h2⟩ := hv.cellsR
    obtain ⟨E', cs', r1, s1, c1, t1, f1, w1⟩ := pubs_sound h h2 hf hw
    exact ⟨E', cs', us, r1, s1, c1, t1, f1, rfl, h2.1.symm, fun _ => rfl, (fun h => by cases h), w1⟩
  | false =>
    obtain ⟨c, rfl, h2⟩ := hv
    have hc : CellsR T W E (.slot N) 0 [c] [v] := ⟨rfl, fun i c' u hc hu => by
      cases i with
      | zero =>
        obtain rfl := Option.some.inj hc
        obtain rfl := Option.some.inj hu
        exact h2
      | succ i => cases hc⟩
    obtain ⟨E', cs', r1, s1, c1, t1, f1, w1⟩ := pubs_sound h hc hf hw
    have hl := c1.1
    match cs', hl with
    | [c'], _ => exact ⟨E', [c'], [v], r1, s1, c1, t1, f1, CellsR.cells1 c1 (by simpa using t1), rfl, (fun h => by cases h), fun _ => rfl, w1⟩
theorem rowsGo_sound {cts : List CT} {k : List (List D) → Pg} {Q : St → Prop} : ∀ {parts : List (Nat × Operand)} {i : Nat} {acc : List (List D)} {E : Env} {us : List Value}, Rel T W N E → acc.length = i → RowsR T E cts acc us →
    (i + parts.length) * cts.length ≤ us.length → (rowsGo cts k parts i acc).wp Q E.σ →
    ∃ E' acc' us', Rel T W N E' ∧ Same E E' ∧ acc'.length = i + parts.length ∧ us'.length = us.length ∧ RowsR T E' cts acc' us' ∧
      Instr.fill (fun i => some (i * cts.length, cts.length)) us.toArray (parts.map fun (i, x) => (i, E.a.eval x)) = some us'.toArray ∧ (k acc').wp Q E'.σ
  | [], i, acc, E, us, h, hi, hr, _, hw => ⟨E, acc, us, h, .refl E, hi, rfl, hr, rfl, hw⟩
  | (j, x) :: r, i, acc, E, us, h, hi, hr, hlen, hw => by
    simp only [rowsGo] at hw
    split at hw
    · rename_i hj
      subst hj
      obtain ⟨sv, h1, f1, h3⟩ := rdv_sound h hw (.slot N)
      split at h3
      · rename_i ag cs
        obtain ⟨E1, cs', vs, r1, s1, c1, t1, g1, e1, el, _, _, w1⟩ := pubs_val h h1 (cellsFree_of_free f1) h3
        split at w1
        · rename_i ds hds
          obtain ⟨d1, d2, d3⟩ := toDs_spec hds
          have hvl : vs.length = cts.length := by rw [← c1.1]; exact d1
          have hin : j * cts.length + cts.length ≤ us.length := by
            have : (j + (r.length + 1)) * cts.length ≤ us.length := hlen
            have h2 : (j + 1) * cts.length ≤ (j + (r.length + 1)) * cts.length := Nat.mul_le_mul_right _ (by omega)
            rw [Nat.succ_mul] at h2
            omega
          have hrows : RowsR T E1 cts (acc ++ [ds]) (overlay us (j * cts.length) vs) := by
            refine ⟨fun k row hk => ?_, fun k j' ct d row hk hct hd => ?_⟩
            · rw [List.getElem?_append] at hk
              split at hk
              · exact hr.1 k row hk
              · rename_i hge
                have : k - acc.length = 0 := by
                  rcases Nat.lt_or_ge (k - acc.length) 1 with h' | h'
                  · omega
                  · rw [List.getElem?_eq_none (by simpa using h')] at hk; cases hk
                rw [this] at hk
                obtain rfl := Option.some.inj hk
                exact d2
            · have hj' : j' < cts.length := (List.getElem?_eq_some_iff.1 hct).1
              rw [overlay_get _ _ _ (by omega)]
              rw [List.getElem?_append] at hk
              split at hk
              · rename_i hlt
                have hb : k * cts.length + j' < j * cts.length := by
                  have : (k + 1) * cts.length ≤ j * cts.length := Nat.mul_le_mul_right _ (by omega)
                  rw [Nat.succ_mul] at this
                  omega
                rw [if_neg (by omega)]
                obtain ⟨u, hu, hru⟩ := hr.2 k j' ct d row hk hct hd
                exact ⟨u, hu, hru.move s1.step.keep s1.step.less⟩
              · rename_i hge
                have hz : k - acc.length = 0 := by
                  rcases Nat.lt_or_ge (k - acc.length) 1 with h' | h'
                  · omega
                  · rw [List.getElem?_eq_none (by simpa using h')] at hk; cases hk
                rw [hz] at hk
                obtain rfl := Option.some.inj hk
                have hkj : k = j := by omega
                subst hkj
                rw [if_pos ⟨by omega, by omega⟩, show k * cts.length + j' - k * cts.length = j' by omega]
                have hjc : j' < cs'.length := by omega
                have hju : j' < vs.length := by omega
                refine ⟨vs[j'], List.getElem?_eq_getElem hju, ?_⟩
                exact (c1.2 j' cs'[j'] vs[j'] (List.getElem?_eq_getElem hjc) (List.getElem?_eq_getElem hju)).rdR (d3 j' ct _ d hct (List.getElem?_eq_getElem hjc) hd)
          obtain ⟨E2, acc', us', r2, s2, l2, l3, q2, e2, w2⟩ := rowsGo_sound (i := j + 1) r1 (by simp [hi]) hrows (by
            rw [overlay_length _ _ _ (by omega)]
            rw [show j + 1 + r.length = j + (r.length + 1) by omega]; exact hlen) w1
          refine ⟨E2, acc', us', r2, s1.trans s2, by rw [l2]; simp; omega, by rw [l3, overlay_length _ _ _ (by omega)], q2, ?_, w2⟩
          have hsz : (E.a.eval x).cells.size = cts.length := by rw [e1]; simp; omega
          simp only [List.map_cons, Instr.fill]
          rw [if_neg (by rw [hsz]; simp; omega)]
          have hfold := fill_seg (E.a.eval x) (j * cts.length) us.toArray (by rw [hsz]; simp; omega)
          have : (E.a.eval x).cells.zipIdx.foldl (fun cs (x : Value × Nat) => cs.setIfInBounds (j * cts.length + x.2) x.1) us.toArray = (overlay us (j * cts.length) vs).toArray := by
            apply Array.ext'
            rw [hfold, e1]
            simp [overlay]
          rw [s1.a] at e2
          exact (congrArg (fun z => Instr.fill _ z _) this).trans e2
        · exact w1.elim
      · exact h3.elim
    · exact hw.elim
def ownSet (N : Nat) (o : Oper) (e : TypeId) (rows : List (List D)) : Pg :=
  match o.dst with
  | some d => .lt d N (.set 1 (.slot d) (.val false [.sl true e rows]) .done)
  | none => .fail
theorem sound_grown {E : Env} {o : Oper} {Q : St → Prop} {K : Act → World → Prop} {Qx : Exit → Act → World → Prop} {v : Value} {w' : World} {e : TypeId} {rows : List (List D)} {F : Nat → Prop} {row : Option Nat} (h : Rel T W N E)
    (hrun : (execOp E.a.eval o).run P E.w = .ok (.value v) w') (hg : E.w.grownBy w' row) (hrow : ∀ x, row = some x → ∃ j, E.bk (.slot N) j x)
    (hblk : ∀ x, F x → ((∃ j, E.bk (.slot N) j x) ∨ E.w.heap.size ≤ x) ∧ x < w'.heap.size)
    (hown : ∀ E', E'.w = w' → Step E E' → OwnF T w' E'.X F e v rows)
    (hw : (ownSet N o e rows).wp Q E.σ) (hK : ∀ E', Rel T W N E' → Q E'.σ → K E'.a E'.w) : o.wp P E.a E.w K Qx := by
  unfold Oper.wp
  rw [hrun, Oper.upon_value]
  unfold ownSet at hw
  split at hw
  · rename_i d hd
    rw [hd]
    exact hK _ (h.grown (d := d) (v := v) (w' := w') (e := e) (rows := rows) (F := F) (row := row) (Pg.lt_wp hw).1 hg hrow hblk (fun s => hown _ rfl s)) (Pg.lt_wp hw).2
  · exact hw.elim
theorem sound_grown1 {E : Env} {o : Oper} {Q : St → Prop} {K : Act → World → Prop} {Qx : Exit → Act → World → Prop} {v : Value} {w' : World} {e : TypeId} {rows : List (List D)} {row : Option Nat} (h : Rel T W N E) (hdp : dpT T e = false)
    (hrun : (execOp E.a.eval o).run P E.w = .ok (.value v) w') (hg : E.w.grownBy w' row) (hrow : ∀ x, row = some x → ∃ j, E.bk (.slot N) j x)
    (hblk : ∀ x, v.ownBlock = some x → ((∃ j, E.bk (.slot N) j x) ∨ E.w.heap.size ≤ x) ∧ x < w'.heap.size)
    (hown : ∀ E', E'.w = w' → Step E E' → Own T w' E'.X 0 e v rows)
    (hw : (ownSet N o e rows).wp Q E.σ) (hK : ∀ E', Rel T W N E' → Q E'.σ → K E'.a E'.w) : o.wp P E.a E.w K Qx :=
  sound_grown (F := fun x => v.ownBlock = some x) h hrun hg hrow hblk (fun E' h1 h2 => OwnF.of_own hdp (hown E' h1 h2) fun _ => Iff.rfl) hw hK
theorem OwnF.toDeep {w : World} {X F : Nat → Prop} {e : TypeId} {v : Value} {rows : List (List D)} (h : OwnF T w X F e v rows) (hd : T.dp = true) : DeepV T w F (.l e) v (.l rows) := by
  cases hdp : dpT T e with
  | true => exact h.deep hdp
  | false =>
    have hf : flatT T e = true := by
      unfold dpT at hdp
      rw [hd] at hdp
      simpa using hdp
    obtain ⟨⟨ty, xs, h1, h2, h3, h4⟩, h5⟩ := h.own hdp
    refine .sl F e ty v rows xs (fun _ _ => False) h1 h2 h3 (fun b => ⟨fun hb => .inl ((h5 b).1 hb), fun hb => hb.elim (fun hb => (h5 b).2 hb) fun ⟨_, hb⟩ => hb.elim⟩) (fun _ _ hb => hb.elim) (fun _ _ _ hb => hb.elim) fun k j ct d row a b c => ?_
    have hct : ∀ e', ct ≠ .l e' := by
      intro e' he
      unfold flatT at hf
      rw [h1] at hf
      have := List.all_eq_true.1 hf ct (List.mem_of_getElem? b)
      rw [he] at this
      cases this
    obtain ⟨u, hu, hr⟩ := h4 k j ct d row a b c
    refine .flat _ _ _ _ (fun _ hb => hb) hct ?_
    rw [List.getD_eq_getElem?_getD, hu]
    exact hr.plain hct
def CV.toDp : CT → CV → Option D
  | .i k, .i k' n => if k = k' then some (.i n) else none
  | .b, .b x => some (.b x)
  | .s, .s x => some (.s x)
  | .l e, .sl true e' rows => if e = e' then some (.l rows) else none
  | _, _ => none
def CV.isOwn : CV → Bool
  | .sl true _ _ => true
  | _ => false
theorem RelCV.deepV {E : Env} {l : Loc} {j : Nat} {v : Value} {c : CV} {ct : CT} {d : D} (h : RelCV T W E l j v c) (hT : T.dp = true) (hd : c.toDp ct = some d) : DeepV T E.w (fun b => c.isOwn = true ∧ E.bk l j b) ct v d := by
  cases ct with
  | i k =>
    cases c with
    | i k' n =>
      simp only [CV.toDp] at hd
      split at hd
      · rename_i hk
        subst hk
        obtain rfl := Option.some.inj hd
        obtain ⟨rfl, h2⟩ := h
        exact .flat _ _ _ _ (fun b hb => by cases hb.1) (fun e he => by cases he) (.int _ _ h2)
      · cases hd
    | sl own e rows => cases own <;> cases hd
    | _ => cases hd
  | b =>
    cases c with
    | b x =>
      obtain rfl := Option.some.inj hd
      have h : v = .bool x := h
      rw [h]
      exact .flat _ _ _ _ (fun b hb => by cases hb.1) (fun e he => by cases he) (.bool _)
    | sl own e rows => cases own <;> cases hd
    | _ => cases hd
  | s =>
    cases c with
    | s x =>
      obtain rfl := Option.some.inj hd
      obtain ⟨rfl, h2⟩ := h
      exact .flat _ _ _ _ (fun b hb => by cases hb.1) (fun e he => by cases he) (.str _ h2)
    | sl own e rows => cases own <;> cases hd
    | _ => cases hd
  | l e =>
    cases c with
    | sl own e' rows =>
      cases own with
      | false => cases hd
      | true =>
        simp only [CV.toDp] at hd
        split at hd
        · rename_i he
          subst he
          obtain rfl := Option.some.inj hd
          have h0 : (fun b => (CV.sl true e rows).isOwn = true ∧ E.bk l j b) = E.bk l j := by
            funext b
            exact propext ⟨fun x => x.2, fun x => ⟨rfl, x⟩⟩
          rw [h0]
          exact OwnF.toDeep h hT
        · cases hd
    | _ => cases hd
def toDps : List CT → List CV → Option (List D)
  | [], [] => some []
  | ct :: r, c :: cs => match c.toDp ct, toDps r cs with
    | some d, some ds => some (d :: ds)
    | _, _ => none
  | _, _ => none
theorem toDps_spec : ∀ {cts : List CT} {cs : List CV} {ds : List D}, toDps cts cs = some ds → cs.length = cts.length ∧ ds.length = cts.length ∧ ∀ (j : Nat) ct c d, cts[j]? = some ct → cs[j]? = some c → ds[j]? = some d → c.toDp ct = some d
  | [], [], ds, h => by obtain rfl := Option.some.inj h; exact ⟨rfl, rfl, fun j ct c d h => by simp at h⟩
  | [], _ :: _, ds, h => by cases h
  | _ :: _, [], ds, h => by cases h
  | ct :: r, c :: cs, ds, h => by
    unfold toDps at h
    split at h
    · rename_i d ds' h1 h2
      obtain rfl := Option.some.inj h
      obtain ⟨a1, a2, a3⟩ := toDps_spec h2
      refine ⟨by simp [a1], by simp [a2], fun j ct' c' d' q1 q2 q3 => ?_⟩
      cases j with
      | zero =>
        obtain rfl := Option.some.inj q1
        obtain rfl := Option.some.inj q2
        obtain rfl := Option.some.inj q3
        exact h1
      | succ j => exact a3 j ct' c' d' (by simpa using q1) (by simpa using q2) (by simpa using q3)
    · cases h
def deepRows (cts : List CT) : Nat → List CV → Option (List (List D))
  | 0, [] => some []
  | 0, _ => none
  | m + 1, cs => match toDps cts (cs.take cts.length), deepRows cts m (cs.drop cts.length) with
    | some ds, some rows => some (ds :: rows)
    | _, _ => none
theorem deepRows_spec {cts : List CT} : ∀ {m : Nat} {cs : List CV} {rows : List (List D)}, deepRows cts m cs = some rows → rows.length = m ∧ (∀ (k : Nat) (row : List D), rows[k]? = some row → row.length = cts.length) ∧
    ∀ (k j : Nat) ct d (row : List D), rows[k]? = some row → cts[j]? = some ct → row[j]? = some d → ∃ c, cs[k * cts.length + j]? = some c ∧ c.toDp ct = some d
  | 0, [], rows, h => by
    obtain rfl := Option.some.inj h
    exact ⟨rfl, fun k row h => by simp at h, fun k j ct d row h => by simp at h⟩
  | 0, _ :: _, rows, h => by cases h
  | m + 1, cs, rows, h => by
    unfold deepRows at h
    split at h
    · rename_i ds rows' h1 h2
      obtain rfl := Option.some.inj h
      obtain ⟨a1, a2, a3⟩ := deepRows_spec h2
      obtain ⟨b1, b2, b3⟩ := toDps_spec h1
      refine ⟨by simp [a1], fun k row hk => ?_, fun k j ct d row hk hct hd => ?_⟩
      · cases k with
        | zero => obtain rfl := Option.some.inj hk; exact b2
        | succ k => exact a2 k row (by simpa using hk)
      · have hj := (List.getElem?_eq_some_iff.1 hct).1
        cases k with
        | zero =>
          obtain rfl := Option.some.inj hk
          have hjc : j < (cs.take cts.length).length := by rw [b1]; exact hj
          refine ⟨(cs.take cts.length)[j], ?_, b3 j ct _ d hct (List.getElem?_eq_getElem hjc) hd⟩
          rw [Nat.zero_mul, Nat.zero_add]
          have := List.getElem?_eq_getElem hjc
          rw [List.getElem?_take, if_pos hj] at this
          exact this
        | succ k =>
          obtain ⟨c, hc, hcd⟩ := a3 k j ct d row (by simpa using hk) hct hd
          refine ⟨c, ?_, hcd⟩
          rw [List.getElem?_drop] at hc
          rw [Nat.succ_mul, ← hc]
          congr 1
          omega
    · cases h
def stepSlice1 (T : Tab) (N : Nat) (o : Oper) (t : TypeId) (len : Nat) (parts : List (Nat × Operand)) : Pg :=
  match elemT T t with
  | some (e, te) => match dpT T e with
    | false => if parts.length = len ∧ len * te.cts.length ≤ 16777216 ∧ 0 < te.cts.length then rowsGo te.cts (fun rows => ownSet N o e rows) parts 0 [] else .fail
    | true => .fail
  | none => .fail
theorem buildSlice1_ok (hT : TabOk P T) {o : Oper} {t : TypeId} {len : Nat} {parts : Array (Nat × Operand)} (ho : o.op = .buildSlice t len parts) : OpOk P T W N o (stepSlice1 T N o t len parts.toList) := by
  intro E Q K Qx h hw hK
  unfold stepSlice1 at hw
  split at hw
  · rename_i e te ht
    obtain ⟨hu, hte, hTe⟩ := elemT_spec hT ht
    split at hw
    case h_2 => exact hw.elim
    rename_i hdp
    split at hw
    · rename_i hlen
      obtain ⟨hpl, hcap, hpos⟩ := hlen
      obtain ⟨z, hz1, hz2, _⟩ := zeroCells_eq hte
      obtain ⟨inf, i1, i2, _⟩ := hte.info
      let us0 : List Value := ((Array.range (len * te.cts.length)).map ((if len * te.cts.length = 0 then #[] else z.cells)[· % (if len * te.cts.length = 0 then #[] else z.cells).size]!)).toList
      have hus0 : us0.length = len * te.cts.length := by simp [us0]
      obtain ⟨E', rows, us', r1, s1, l1, l2, q1, e1, w1⟩ := rowsGo_sound (cts := te.cts) (acc := []) (i := 0) (parts := parts.toList) (us := us0) h rfl ⟨fun k row hk => by simp at hk, fun k j ct d row hk => by simp at hk⟩ (by rw [hus0, Nat.zero_add, hpl]; exact Nat.le_refl _) hw
      have hrl : rows.length = len := by omega
      refine s1.run (sound_grown1 (e := e) (rows := rows) (row := none) r1 hdp (v := .slice (some ⟨E'.w.heap.size, 0, none⟩) len len) (w' := E'.w.alloc (.cells us'.toArray e)) ?_ (World.grownBy_alloc _ _ _) (fun x hx => by cases hx) (fun x hx => ?_) (fun E2 hE2 s2 => ?_) w1 hK)
      · rw [s1.a, s1.w]
        have hn : ¬ (len * te.cts.length > 2 ^ 24) := by omega
        have e1' : Instr.fill (fun i => some (i * te.cts.length, te.cts.length)) ((Array.range (len * te.cts.length)).map ((if len * te.cts.length = 0 then #[] else z.cells)[· % (if len * te.cts.length = 0 then #[] else z.cells).size]!)) (parts.map fun (i, x) => (i, E.a.eval x)).toList = some us'.toArray := by
          rw [Array.toList_map]
          have : us0.toArray = (Array.range (len * te.cts.length)).map ((if len * te.cts.length = 0 then #[] else z.cells)[· % (if len * te.cts.length = 0 then #[] else z.cells).size]!) := Array.toArray_toList
          rw [← this]; exact e1
        have hrun : (Instr.buildSlice t len (parts.map fun (i, x) => (i, E.a.eval x))).run P E.w = .ok (.slice (some ⟨E.w.heap.size, 0, none⟩) len len) (E.w.alloc (.cells us'.toArray e)) := by
          simp only [Instr.buildSlice, Sem.run_bind, run_underlying hu, Result.andThen_ok, sizeOf, typeInfo]
          simp only [Sem.run, program, i1, i2, Sem.run_pure, Result.andThen_ok, if_neg hn]
          by_cases hz0 : len * te.cts.length = 0
          · simp only [if_pos hz0] at e1' ⊢
            simp only [Sem.run_bind, Sem.run_pure, Result.andThen_ok]
            rw [e1']
            rfl
          · simp only [if_neg hz0] at e1' ⊢
            simp only [Sem.run_bind, hz1, Sem.run_pure, Result.andThen_ok]
            rw [e1']
            rfl
        simp only [execOp, ho, Sem.run_bind, hrun, Result.andThen_ok]
        rfl
      · have : E'.w.heap.size = x := by simpa [Value.ownBlock] using hx
        subst this
        exact ⟨.inr (Nat.le_refl _), by simp⟩
      · refine ⟨te, us', hTe, ⟨?_, .inr ⟨E'.w.heap.size, len, us'.toArray, by rw [hrl], ?_, heap_alloc_new _ _, by omega, ?_, ?_, ?_⟩⟩, q1.1, fun k j ct d row a b c => ?_⟩
        · rw [hrl, l2, hus0]
        · exact Nat.zero_le _
        · have : len ≤ len * te.cts.length := Nat.le_mul_of_pos_right _ hpos
          simp only [maxLen]; omega
        · simp [l2, hus0]
        · rw [hrl]; simp; rw [List.take_of_length_le (by rw [l2, hus0]; exact Nat.le_refl _)]
        · obtain ⟨u, hu', hr⟩ := q1.2 k j ct d row a b c
          refine ⟨u, hu', ?_⟩
          have := hr.move s2.keep s2.less
          rwa [hE2] at this
    · exact hw.elim
  · exact hw.elim
theorem zeroRow_cellsR {E : Env} {cts : List CT} (he : ∀ e, CT.l e ∈ cts → (T e).isSome) (hbk : ∀ j b, ¬ E.bk (.slot N) j b) (len : Nat) {us : List Value} (hl : us.length = len * cts.length) (hu : ∀ x, x < len * cts.length → us[x]? = (cts.map zeroV)[x % cts.length]?) :
    CellsR T W E (.slot N) 0 ((List.range (len * cts.length)).map fun x => ((cts[x % cts.length]?).map zeroC).getD .dead) us := by
  refine ⟨by simp [hl], fun i c u hc hu' => ?_⟩
  have hi : i < len * cts.length := by rw [← hl]; exact (List.getElem?_eq_some_iff.1 hu').1
  rw [List.getElem?_map, List.getElem?_range hi] at hc
  rw [hu i hi, List.getElem?_map] at hu'
  cases hct : cts[i % cts.length]? with
  | none => rw [hct] at hu'; cases hu'
  | some ct =>
    rw [hct] at hu'
    simp only [hct, Option.map_some, Option.getD_some, Option.some.injEq] at hc hu'
    subst hc hu'
    cases ct with
    | i k => exact ⟨rfl, zero_inK k⟩
    | b => rfl
    | s => exact ⟨rfl, Nat.zero_le _⟩
    | l e =>
      have := he e (List.mem_of_getElem? hct)
      cases hte : T e with
      | none => rw [hte] at this; cases this
      | some te => exact OwnF.nil hte (hbk _)
theorem deep_new {E : Env} {e : TypeId} {te : Ty} {len cap : Nat} {acc : List CV} {us : List Value} {rows : List (List D)} {w' : World} {g : Nat} (h : Rel T W N E) (hdp : T.dp = true) (hTe : T e = some te) (hc : CellsR T W E (.slot N) 0 acc us) (hd : deepRows te.cts len acc = some rows)
    (hg : E.w.heap.size ≤ g) (hk : ∀ b, b < E.w.heap.size → w'.heap[b]? = E.w.heap[b]?) (ho : w'.ownsRow 0 e te.cts.length (.slice (some ⟨g, 0, none⟩) len cap) len us) :
    DeepV T w' (fun b => b = g ∨ ∃ i c, acc[i]? = some c ∧ c.isOwn = true ∧ E.bk (.slot N) i b) (.l e) (.slice (some ⟨g, 0, none⟩) len cap) (.l rows) := by
  obtain ⟨d1, d2, d3⟩ := deepRows_spec hd
  have hul : us.length = len * te.cts.length := ho.1
  have hacc : acc.length = us.length := hc.1
  refine .sl _ e te _ rows us (fun i b => ∃ c, acc[i]? = some c ∧ c.isOwn = true ∧ E.bk (.slot N) i b) hTe (by rw [d1]; exact ho) d2 (fun b => ?_) (fun i b hb => ?_) (fun i i' b hb hb' => ?_) (fun k j ct d row a b c => ?_)
  · show (b = g ∨ _) ↔ (some g = some b ∨ _)
    rw [Option.some.injEq, eq_comm]
  · obtain ⟨c, h1, h2, h3⟩ := hb
    refine ⟨fun he => ?_, by rw [d1, ← hul, ← hacc]; exact (List.getElem?_eq_some_iff.1 h1).1⟩
    have hge : g = b := by simpa [Value.ownBlock] using he
    have := (h.owlo _ _ _ h3).2
    omega
  · obtain ⟨c, h1, h2, h3⟩ := hb
    obtain ⟨c', h1', h2', h3'⟩ := hb'
    exact (h.owinj _ _ _ _ _ h3 h3').2
  · obtain ⟨x, hx, hxd⟩ := d3 k j ct d row a b c
    have hlt : k * te.cts.length + j < us.length := by rw [← hacc]; exact (List.getElem?_eq_some_iff.1 hx).1
    have hr := (hc.2 _ x _ hx (List.getElem?_eq_getElem hlt)).deepV hdp hxd
    rw [Nat.zero_add] at hr
    have e1 : us.getD (k * te.cts.length + j) undef = us[k * te.cts.length + j] := by rw [List.getD_eq_getElem?_getD, List.getElem?_eq_getElem hlt]; rfl
    rw [e1]
    have e2 : (fun b => ∃ c, acc[k * te.cts.length + j]? = some c ∧ c.isOwn = true ∧ E.bk (.slot N) (k * te.cts.length + j) b) = fun b => x.isOwn = true ∧ E.bk (.slot N) (k * te.cts.length + j) b := by
      funext b
      refine propext ⟨fun ⟨c, h1, h2⟩ => ?_, fun h2 => ⟨x, hx, h2⟩⟩
      rw [hx] at h1
      obtain rfl := Option.some.inj h1
      exact h2
    rw [e2]
    exact hr.move fun b hb => hk b (h.owlo _ _ _ hb.2).2
def stepSliceD (T : Tab) (N : Nat) (o : Oper) (t : TypeId) (len : Nat) (parts : List (Nat × Operand)) : Pg :=
  match elemT T t with
  | some (e, te) => match T.dp with
    | true => if parts.length = len ∧ len * te.cts.length ≤ 16777216 ∧ 0 < te.cts.length then
        buildGo ((List.range len).map fun i => (i * te.cts.length, te.cts.length)) (fun acc => match deepRows te.cts len acc with
          | some rows => ownSet N o e rows
          | none => .fail) parts ((List.range (len * te.cts.length)).map fun x => ((te.cts[x % te.cts.length]?).map zeroC).getD .dead) else .fail
    | false => .fail
  | none => .fail
theorem OwnF.of_deep' {w : World} {X F : Nat → Prop} {e : TypeId} {v : Value} {rows : List (List D)} (hT : T.dp = true) (h : DeepV T w F (.l e) v (.l rows)) : OwnF T w X F e v rows := by
  cases hdp : dpT T e with
  | true => exact .of_deep hdp h
  | false =>
    have hf : flatT T e = true := by
      unfold dpT at hdp
      rw [hT] at hdp
      simpa using hdp
    obtain ⟨ty, xs, G, h1, h2, h3, h4, h5, h6, h7⟩ := h.inv
    have hct : ∀ ct ∈ ty.cts, ∀ e', ct ≠ .l e' := by
      intro ct hm e' he
      unfold flatT at hf
      rw [h1] at hf
      have := List.all_eq_true.1 hf ct hm
      rw [he] at this
      cases this
    have hG : ∀ i b, ¬ G i b := by
      intro i b hb
      have hlt := (h5 i b hb).2
      have hn : 0 < ty.cts.length := Nat.pos_of_ne_zero fun e => by rw [e] at hlt; omega
      have hk : i / ty.cts.length < rows.length := Nat.div_lt_of_lt_mul (by rwa [Nat.mul_comm])
      have hj : i % ty.cts.length < ty.cts.length := Nat.mod_lt _ hn
      have hr := h3 _ _ (List.getElem?_eq_getElem hk)
      have he : i / ty.cts.length * ty.cts.length + i % ty.cts.length = i := by rw [Nat.mul_comm]; exact Nat.div_add_mod ..
      have := h7 (i / ty.cts.length) (i % ty.cts.length) _ _ _ (List.getElem?_eq_getElem hk) (List.getElem?_eq_getElem hj) (List.getElem?_eq_getElem (by rw [hr]; exact hj))
      rw [he] at this
      exact this.noF (hct _ (List.getElem_mem _)) b hb
    refine .of_own hdp ⟨ty, xs, h1, h2, h3, fun k j ct d row a b c => ?_⟩ fun b => by rw [h4]; exact ⟨fun h => h.elim id fun ⟨i, hi⟩ => (hG i b hi).elim, .inl⟩
    have hkl := (List.getElem?_eq_some_iff.1 a).1
    have hjl := (List.getElem?_eq_some_iff.1 b).1
    have hlt : k * ty.cts.length + j < xs.length := by
      rw [h2.1]
      have : (k + 1) * ty.cts.length ≤ rows.length * ty.cts.length := Nat.mul_le_mul_right _ hkl
      rw [Nat.succ_mul] at this
      omega
    have := (h7 k j ct d row a b c).plainR (X := X) (hct ct (List.mem_of_getElem? b))
    refine ⟨_, List.getElem?_eq_getElem hlt, ?_⟩
    rw [List.getD_eq_getElem?_getD, List.getElem?_eq_getElem hlt] at this
    exact this
theorem buildSliceD_ok (hT : TabOk P T) {o : Oper} {t : TypeId} {len : Nat} {parts : Array (Nat × Operand)} (ho : o.op = .buildSlice t len parts) : OpOk P T W N o (stepSliceD T N o t len parts.toList) := by
  intro E Q K Qx h hw hK
  unfold stepSliceD at hw
  split at hw
  · rename_i e te ht
    obtain ⟨hu, hte, hTe⟩ := elemT_spec hT ht
    split at hw
    case h_2 => exact hw.elim
    rename_i hdp
    split at hw
    · rename_i hlen
      obtain ⟨hpl, hcap, hpos⟩ := hlen
      obtain ⟨z, hz1, hz2, _⟩ := zeroCells_eq hte
      obtain ⟨inf, i1, i2, _⟩ := hte.info
      have hzl : z.cells.size = te.cts.length := by have := congrArg List.length hz2; simpa using this
      let us0 : List Value := ((Array.range (len * te.cts.length)).map ((if len * te.cts.length = 0 then #[] else z.cells)[· % (if len * te.cts.length = 0 then #[] else z.cells).size]!)).toList
      have hus0 : us0.length = len * te.cts.length := by simp [us0]
      have hz0 : ∀ x, x < len * te.cts.length → us0[x]? = (te.cts.map zeroV)[x % te.cts.length]? := by
        intro x hx
        have hne : ¬ len * te.cts.length = 0 := by omega
        have hm : x % te.cts.length < te.cts.length := Nat.mod_lt _ hpos
        simp only [us0, Array.toList_map, Array.toList_range, List.getElem?_map, List.getElem?_range hx, Option.map_some, if_neg hne, hzl]
        rw [← List.getElem?_map, ← hz2, getElem!_def]
        have : z.cells[x % te.cts.length]? = z.cells.toList[x % te.cts.length]? := by simp
        rw [this]
        cases hc : z.cells.toList[x % te.cts.length]? with
        | none => rw [List.getElem?_eq_none_iff] at hc; rw [Array.length_toList, hzl] at hc; omega
        | some v => rfl
      have s0 : Same E (E.clr N) := ⟨rfl, rfl, rfl, clr_step⟩
      obtain ⟨E', acc', us', r1, s1, c1, e1, w1⟩ := buildGo_sound (places := fun i => some (i * te.cts.length, te.cts.length)) (fun f off sz hf => by
        rw [List.getElem?_map] at hf
        cases hr : (List.range len)[f]? with
        | none => rw [hr] at hf; cases hf
        | some f' =>
          have hlt := (List.getElem?_eq_some_iff.1 hr).1
          rw [List.getElem?_range (by simpa using hlt)] at hr
          obtain rfl := Option.some.inj hr
          rw [List.getElem?_range (by simpa using hlt)] at hf
          exact hf) h.clr (zeroRow_cellsR hte.elems clr_none len hus0 hz0) hw
      split at w1
      case h_2 => exact w1.elim
      rename_i rows hdr
      have hul : us'.length = len * te.cts.length := by
        have hf := congrArg (Option.map Array.size) e1
        have : ∀ (l : List (Nat × Value)) (a b : Array Value), Instr.fill (fun i => some (i * te.cts.length, te.cts.length)) a l = some b → b.size = a.size := by
          intro l
          induction l with
          | nil => intro a b hab; simp only [Instr.fill, Option.some.injEq] at hab; rw [hab]
          | cons x r ih =>
            intro a b hab
            simp only [Instr.fill] at hab
            split at hab
            · cases hab
            · rw [ih _ _ hab]
              have : ∀ (q : List (Value × Nat)) (c : Array Value) (m : Nat), (q.foldl (fun cs (y : Value × Nat) => cs.setIfInBounds (m + y.2) y.1) c).size = c.size := by
                intro q
                induction q with
                | nil => intro c m; rfl
                | cons y q ih2 => intro c m; simp only [List.foldl_cons]; rw [ih2]; simp
              rw [← Array.foldl_toList]
              exact this _ _ _
        have := this _ _ _ e1
        simpa [hus0] using this
      obtain ⟨d1, d2, d3⟩ := deepRows_spec hdr
      refine (s0.trans s1).run (sound_grown (e := e) (rows := rows) (row := none) (F := fun b => b = E'.w.heap.size ∨ ∃ i c, acc'[i]? = some c ∧ c.isOwn = true ∧ E'.bk (.slot N) i b) r1 (v := .slice (some ⟨E'.w.heap.size, 0, none⟩) len len) (w' := E'.w.alloc (.cells us'.toArray e)) ?_ (World.grownBy_alloc _ _ _) (fun x hx => by cases hx) (fun x hx => ?_) (fun E2 hE2 s2 => ?_) w1 hK)
      · rw [(s0.trans s1).a, (s0.trans s1).w]
        have hn : ¬ (len * te.cts.length > 2 ^ 24) := by omega
        have e1' : Instr.fill (fun i => some (i * te.cts.length, te.cts.length)) ((Array.range (len * te.cts.length)).map ((if len * te.cts.length = 0 then #[] else z.cells)[· % (if len * te.cts.length = 0 then #[] else z.cells).size]!)) (parts.map fun (i, x) => (i, E.a.eval x)).toList = some us'.toArray := by
          rw [Array.toList_map]
          have : us0.toArray = (Array.range (len * te.cts.length)).map ((if len * te.cts.length = 0 then #[] else z.cells)[· % (if len * te.cts.length = 0 then #[] else z.cells).size]!) := Array.toArray_toList
          rw [← this]; exact e1
        have hrun : (Instr.buildSlice t len (parts.map fun (i, x) => (i, E.a.eval x))).run P E.w = .ok (.slice (some ⟨E.w.heap.size, 0, none⟩) len len) (E.w.alloc (.cells us'.toArray e)) := by
          simp only [Instr.buildSlice, Sem.run_bind, run_underlying hu, Result.andThen_ok, sizeOf, typeInfo]
          simp only [Sem.run, program, i1, i2, Sem.run_pure, Result.andThen_ok, if_neg hn]
          by_cases hz0 : len * te.cts.length = 0
          · simp only [if_pos hz0] at e1' ⊢
            simp only [Sem.run_bind, Sem.run_pure, Result.andThen_ok]
            rw [e1']
            rfl
          · simp only [if_neg hz0] at e1' ⊢
            simp only [Sem.run_bind, hz1, Sem.run_pure, Result.andThen_ok]
            rw [e1']
            rfl
        simp only [execOp, ho, Sem.run_bind, hrun, Result.andThen_ok]
        rfl
      · rcases hx with rfl | ⟨i, c, _, _, hb⟩
        · exact ⟨.inr (Nat.le_refl _), by simp⟩
        · refine ⟨.inl ⟨i, hb⟩, ?_⟩
          have := (r1.owlo _ _ _ hb).2
          simp
          omega
      · refine OwnF.of_deep' hdp (deep_new r1 hdp hTe c1 hdr (Nat.le_refl _) (fun b hb => Below.heap_alloc _ _ _ hb) ⟨hul, .inr ⟨E'.w.heap.size, len, us'.toArray, rfl, Nat.zero_le _, heap_alloc_new _ _, Nat.le_refl _, ?_, by simp [hul], ?_⟩⟩)
        · have : len ≤ len * te.cts.length := Nat.le_mul_of_pos_right _ hpos
          simp only [maxLen]; omega
        · simp; rw [List.take_of_length_le (by rw [hul]; exact Nat.le_refl _)]
    · exact hw.elim
  · exact hw.elim
def stepSlice0 (T : Tab) (N : Nat) (o : Oper) (t : TypeId) (len : Nat) (parts : List (Nat × Operand)) : Pg :=
  match T.dp with
  | false => stepSlice1 T N o t len parts
  | true => stepSliceD T N o t len parts
theorem buildSlice_ok (hT : TabOk P T) {o : Oper} {t : TypeId} {len : Nat} {parts : Array (Nat × Operand)} (ho : o.op = .buildSlice t len parts) : OpOk P T W N o (stepSlice0 T N o t len parts.toList) := by
  unfold stepSlice0
  cases T.dp with
  | false => exact buildSlice1_ok hT ho
  | true => exact buildSliceD_ok hT ho
end Go.Proofs.YtaecbmjmcpdgdaaGreat.Ab
