/- Nil and elements stored, structures and slices built, slices made, appended to, cut. No program in sight. -/
import Derived.Test.YtijnlnmoellbaaaGreatAb10
namespace Go.Proofs.YtijnlnmoellbaaaGreat.Ab
open Go.RowKit
variable {P : Program} {T : Tab} {W : Base} {N : Nat}

def stepStoreNil (T : Tab) (o : Oper) (t : TypeId) (x : Operand) : Pg :=
  match o.dst, elemT T t with
  | none, some (e, _) => rdv x fun sx => match sx with
    | .ptr b g p => .get (.gen b) fun v => if v.1 = g then match v.2 with
          | .num m => if p + 1 ≤ m then setBox b p [.sl true e []] .done else .fail
          | _ => .fail
        else .fail
    | _ => .fail
  | _, _ => .fail
theorem storeNil_ok (hT : TabOk P T) {o : Oper} {t : TypeId} {x : Operand} (ho : o.op = .store t x (.const (.slice none 0 0))) : OpOk P T W N o (stepStoreNil T o t x) := by
  intro E Q K Qx h hw hK
  unfold stepStoreNil at hw
  split at hw
  · rename_i e te hd ht
    obtain ⟨hu, hte, hTe⟩ := elemT_spec hT ht
    obtain ⟨sx, h1, _f1, h3⟩ := rdv_sound h hw (.slot N)
    split at h3
    · rename_i b g p
      simp only [Pg.wp] at h3
      split at h3
      · rename_i hg
        split at h3
        · rename_i m hm
          split at h3
          · rename_i hp
            have hc : CellsR T W (E.clr N) (.slot N) 0 [.sl true e []] [.slice none 0 0] := ⟨rfl, fun i c u hc hu => by
              cases i with
              | zero =>
                obtain rfl := Option.some.inj hc
                obtain rfl := Option.some.inj hu
                exact ⟨own_nil hTe, by simp [Env.clr, Value.ownBlock]⟩
              | succ i => cases hc⟩
            have hty : ∃ ty, T t = some ty ∧ ty.cts.length = 1 := by
              unfold elemT at ht
              split at ht
              · rename_i ty hty
                split at ht
                · rename_i e' hag hcts
                  exact ⟨ty, hty, by rw [hcts]; rfl⟩
                · cases ht
              · cases ht
            obtain ⟨ty, hty, hlen⟩ := hty
            have hrun := run_store hT ho hty (E := E.clr N) (b := E.β b) (p := p) (h1.2 hg) (us := [.slice none 0 0]) rfl (by rw [hlen]; rfl) (by simp [Value.oneCell']) (fun j hj => by
              obtain ⟨c, v, e1', e2, e3, _⟩ := h.cell b m (p + j) hm (by simp at hj; omega)
              exact ⟨by show (E.w.cell? _).isSome = true; rw [e2]; rfl, e3⟩)
            unfold Oper.wp
            have hrun' : (execOp E.a.eval o).run P E.w = .ok .skip (E.w.setCells (E.β b) p [.slice none 0 0]) := hrun
            rw [hrun', Oper.upon_skip, hd]
            rw [setBox_wp] at h3
            exact hK _ (h.clr.stored (b := b) (p := p) (cs := [.sl true e []]) hm hp hc) h3
          · exact h3.elim
        · exact h3.elim
      · exact h3.elim
    · exact h3.elim
  · exact hw.elim

/-! Parts laid over cells -/
theorem foldl_seg : ∀ (seg : List Value) (i off : Nat) (cells : Array Value), off + i + seg.length ≤ cells.size →
    ((seg.zipIdx i).foldl (fun cs (x : Value × Nat) => cs.setIfInBounds (off + x.2) x.1) cells).toList = cells.toList.take (off + i) ++ seg ++ cells.toList.drop (off + i + seg.length)
  | [], i, off, cells, h => by simp
  | v :: r, i, off, cells, h => by
    simp only [List.zipIdx_cons, List.foldl_cons]
    have hlt : off + i < cells.size := by simp at h; omega
    have := foldl_seg r (i + 1) off (cells.setIfInBounds (off + i) v) (by simp at h ⊢; omega)
    rw [this]
    simp only [Array.toList_setIfInBounds, List.length_cons]
    rw [show off + (i + 1) = off + i + 1 by omega, show off + i + 1 + r.length = off + i + (r.length + 1) by omega]
    rw [List.drop_set_of_lt (by omega)]
    have ht : (cells.toList.set (off + i) v).take (off + i + 1) = cells.toList.take (off + i) ++ [v] := by
      rw [List.take_add_one, List.take_set_of_le (Nat.le_refl _), List.getElem?_set_self (by simpa using hlt)]
      rfl
    rw [ht]
    simp [List.append_assoc]
theorem fill_seg (v : Value) (off : Nat) (cells : Array Value) (h : off + v.cells.size ≤ cells.size) :
    (v.cells.zipIdx.foldl (fun cs (x : Value × Nat) => cs.setIfInBounds (off + x.2) x.1) cells).toList = cells.toList.take off ++ v.cells.toList ++ cells.toList.drop (off + v.cells.size) := by
  have := foldl_seg v.cells.toList 0 off cells (by simpa using h)
  rw [← Array.foldl_toList, Array.toList_zipIdx]
  simpa using this
/-- Cells cs from off on are laid over. -/
def overlay {α : Type} (l : List α) (off : Nat) (seg : List α) : List α := l.take off ++ seg ++ l.drop (off + seg.length)
theorem overlay_length {α : Type} (l : List α) (off : Nat) (seg : List α) (h : off + seg.length ≤ l.length) : (overlay l off seg).length = l.length := by
  simp [overlay]; omega
theorem overlay_get {α : Type} (l : List α) (off : Nat) (seg : List α) (h : off + seg.length ≤ l.length) (i : Nat) :
    (overlay l off seg)[i]? = if off ≤ i ∧ i < off + seg.length then seg[i - off]? else l[i]? := by
  unfold overlay
  have ho : off ≤ l.length := by omega
  by_cases h1 : i < off
  · rw [if_neg (by omega), List.append_assoc, List.getElem?_append_left (by simp; omega), List.getElem?_take, if_pos h1]
  · by_cases h2 : i < off + seg.length
    · rw [if_pos ⟨by omega, h2⟩, List.getElem?_append_left (by simp; omega), List.getElem?_append_right (by simp; omega)]
      simp [Nat.min_eq_left ho]
    · rw [if_neg (by omega), List.getElem?_append_right (by simp; omega)]
      simp only [List.length_append, List.length_take, Nat.min_eq_left ho, List.getElem?_drop]
      congr 1; omega
theorem CellsR.overlay {E : Env} {cs : List CV} {us : List Value} {l : Loc} {off : Nat} {seg : List CV} {vs : List Value} (h : CellsR T W E l 0 cs us) (hs : CellsR T W E l off seg vs) (ho : off + seg.length ≤ cs.length) :
    CellsR T W E l 0 (Ab.overlay cs off seg) (Ab.overlay us off vs) := by
  have hl := hs.1
  have hl' := h.1
  refine ⟨by rw [overlay_length _ _ _ ho, overlay_length _ _ _ (by omega)]; exact h.1, fun i c u hc hu => ?_⟩
  rw [overlay_get _ _ _ ho] at hc
  rw [overlay_get _ _ _ (by omega)] at hu
  rw [← hl] at hu
  split at hc
  · rename_i hin
    rw [if_pos hin] at hu
    have := hs.2 (i - off) c u hc hu
    rwa [show off + (i - off) = 0 + i by omega] at this
  · rename_i hin
    rw [if_neg hin] at hu
    exact h.2 i c u hc hu

/-- Parts of a structure, one after another, each moved; laid over the zero cells. -/
def buildGo (offs : List (Nat × Nat)) (k : List CV → Pg) : List (Nat × Operand) → List CV → Pg
  | [], acc => k acc
  | (f, x) :: r, acc => match offs[f]? with
    | some (off, sz) => rdv x fun sv => match sv with
      | .val _ cs => if cs.length = sz ∧ off + sz ≤ acc.length then movs cs fun cs' => buildGo offs k r (overlay acc off cs') else .fail
      | _ => .fail
    | none => .fail
def stepBuild (T : Tab) (N : Nat) (o : Oper) (t : TypeId) (parts : List (Nat × Operand)) : Pg :=
  match T t with
  | some ty => if ty.agg = true then buildGo ty.offs (fun cs => dstSet N o (.val true cs)) parts (ty.cts.map zeroC) else .fail
  | none => .fail
theorem movs_at {E : Env} (h : Rel T W N E) {v : Value} {ag : Bool} {cs : List CV} {k : List CV → Pg} {Q : St → Prop} (off : Nat) (hv : RelSV T W E (.slot N) v (.val ag cs)) (hf : cs.all CV.free = true) (hw : (movs cs k).wp Q E.σ) :
    ∃ E' cs' us, Rel T W N E' ∧ Same E E' ∧ CellsR T W E' (.slot N) off cs' us ∧ cs'.all CV.set = true ∧ v.cells = us.toArray ∧ us.length = cs.length ∧ (∀ j', j' < off ∨ off + cs.length ≤ j' → E'.bk (.slot N) j' = E.bk (.slot N) j') ∧ (k cs').wp Q E'.σ := by
  have shift : ∀ {us : List Value}, CellsR T W E (.slot N) 0 cs us → CellsR T W E (.slot N) off cs us := fun {us} hc =>
    ⟨hc.1, fun i c u hc' hu => (hc.2 i c u hc' hu).any (fun e rows he => by
      have := List.all_eq_true.1 hf c (List.mem_of_getElem? hc')
      rw [he] at this; cases this)⟩
  cases ag with
  | true =>
    obtain ⟨us, rfl, h2⟩ := hv.cellsR
    obtain ⟨E', cs', r1, s1, c1, t1, b1, w1⟩ := movs_sound h (shift h2) hf hw
    exact ⟨E', cs', us, r1, s1, c1, t1, rfl, h2.1.symm, b1, w1⟩
  | false =>
    obtain ⟨c, rfl, h2⟩ := hv
    have hc : CellsR T W E (.slot N) 0 [c] [v] := ⟨rfl, fun i c' u hc hu => by
      cases i with
      | zero =>
        obtain rfl := Option.some.inj hc
        obtain rfl := Option.some.inj hu
        exact h2
      | succ i => cases hc⟩
    obtain ⟨E', cs', r1, s1, c1, t1, b1, w1⟩ := movs_sound h (shift hc) hf hw
    have hl := c1.1
    match cs', hl with
    | [c'], _ =>
      have hr := c1.2 0 c' v rfl rfl
      refine ⟨E', [c'], [v], r1, s1, c1, t1, ?_, rfl, b1, w1⟩
      have hs : c'.set = true := by simpa using t1
      cases c' with
      | i k n => rw [hr.1]; rfl
      | b x => rw [(hr : v = _)]; rfl
      | s x => rw [hr.1]; rfl
      | sl own e rows =>
        cases own with
        | true => exact hr.1.cells
        | false => exact RdR.cells (hr : RdR T _ _ _ _ _)
      | al q i n => cases hs
      | dead => cases hs
theorem buildGo_sound {offs : List (Nat × Nat)} {k : List CV → Pg} {Q : St → Prop} {places : Nat → Option (Nat × Nat)} (hp : ∀ (f off sz : Nat), offs[f]? = some (off, sz) → places f = some (off, sz)) :
    ∀ {parts : List (Nat × Operand)} {E : Env} {acc : List CV} {us : List Value}, Rel T W N E → CellsR T W E (.slot N) 0 acc us → (buildGo offs k parts acc).wp Q E.σ →
    ∃ E' acc' us', Rel T W N E' ∧ Same E E' ∧ CellsR T W E' (.slot N) 0 acc' us' ∧ Instr.fill places us.toArray (parts.map fun (i, x) => (i, E.a.eval x)) = some us'.toArray ∧ (k acc').wp Q E'.σ
  | [], E, acc, us, h, hc, hw => ⟨E, acc, us, h, .refl E, hc, rfl, hw⟩
  | (f, x) :: r, E, acc, us, h, hc, hw => by
    simp only [buildGo] at hw
    split at hw
    · rename_i off sz hoff
      obtain ⟨sv, h1, f1, h3⟩ := rdv_sound h hw (.slot N)
      split at h3
      · rename_i ag cs
        split at h3
        · rename_i hlen
          obtain ⟨E1, cs', vs, r1, s1, c1, t1, e1, el, b1, w1⟩ := movs_at h off h1 (cellsFree_of_free f1) h3
          have hl1 := c1.1
          have hl0 := hc.1
          have hacc : CellsR T W E1 (.slot N) 0 (overlay acc off cs') (overlay us off vs) := by
            refine ⟨by rw [overlay_length _ _ _ (by omega), overlay_length _ _ _ (by omega)]; exact hc.1, fun i c u hc' hu => ?_⟩
            rw [overlay_get _ _ _ (by omega)] at hc'
            rw [overlay_get _ _ _ (by omega)] at hu
            rw [← hl1] at hu
            split at hc'
            · rename_i hin
              rw [if_pos hin] at hu
              have := c1.2 (i - off) c u hc' hu
              rwa [show off + (i - off) = 0 + i by omega] at this
            · rename_i hin
              rw [if_neg hin] at hu
              exact (hc.2 i c u hc' hu).step s1.step (fun e rows he => ⟨b1 _ (by omega), fun _ _ => by rw [s1.w]⟩)
          obtain ⟨E2, acc', us', r2, s2, c2, e2, w2⟩ := buildGo_sound hp r1 hacc w1
          refine ⟨E2, acc', us', r2, s1.trans s2, c2, ?_, w2⟩
          have hsz : (E.a.eval x).cells.size = sz := by rw [e1]; simp; omega
          simp only [List.map_cons, Instr.fill, hp f off sz hoff]
          rw [if_neg (by rw [hsz]; simp; omega)]
          have hfold := fill_seg (E.a.eval x) off us.toArray (by rw [hsz]; simp; omega)
          have : (E.a.eval x).cells.zipIdx.foldl (fun cs (x : Value × Nat) => cs.setIfInBounds (off + x.2) x.1) us.toArray = (overlay us off vs).toArray := by
            apply Array.ext'
            rw [hfold, e1]
            simp [overlay]
          rw [s1.a] at e2
          exact (congrArg (fun z => Instr.fill places z _) this).trans e2
        · exact h3.elim
      · exact h3.elim
    · exact hw.elim
theorem mapM_run {α β : Type} (f : α → Sem β) (g : α → β) (w : World) : ∀ (l : List α), (∀ a ∈ l, (f a).run P w = .ok (g a) w) → (l.mapM f).run P w = .ok (l.map g) w
  | [], _ => rfl
  | a :: r, h => by
    rw [List.mapM_cons]
    simp only [Sem.run_bind, h a (by simp), Result.andThen_ok, mapM_run f g w r (fun b hb => h b (by simp [hb]))]
    rfl
theorem build_ok (hT : TabOk P T) {o : Oper} {t : TypeId} {parts : Array (Nat × Operand)} (ho : o.op = .build t parts) : OpOk P T W N o (stepBuild T N o t parts.toList) := by
  intro E Q K Qx h hw hK
  unfold stepBuild at hw
  split at hw
  · rename_i ty hty
    split at hw
    · rename_i hag
      have ok := hT t ty hty
      obtain ⟨z, hz1, hz2, _⟩ := zeroCells_eq ok
      obtain ⟨fs, hu, hsz, hfs⟩ := ok.str hag
      have hzc : z.cells = (ty.cts.map zeroV).toArray := by rw [← hz2]
      have hpl : ∀ (f off sz : Nat), ty.offs[f]? = some (off, sz) → (fs.map fun fd => (fd.offset, P.cellsOf fd.type))[f]? = some (off, sz) := fun f off sz hf => by
        obtain ⟨fd, a1, a2, a3, _⟩ := hfs f off sz hf
        simp [a1, a2, a3]
      obtain ⟨E', acc', us', r1, s1, c1, e1, w1⟩ := buildGo_sound (places := fun i => (fs.map fun fd => (fd.offset, P.cellsOf fd.type))[i]?) hpl h.clr (zero_cellsR ok.elems (fun j => by simp [Env.clr])) hw
      have s0 : Same E (E.clr N) := ⟨rfl, rfl, rfl, clr_step⟩
      refine (s0.trans s1).run (sound_value r1 (v := .agg us'.toArray) ?_ c1.relSV w1 hK)
      rw [s1.a, s1.w]
      show (execOp E.a.eval o).run P E.w = .ok _ E.w
      have hplaces : (fs.mapM fun f => (do pure (f.offset, ← sizeOf f.type) : Sem (Nat × Nat))).run P E.w = .ok (fs.map fun fd => (fd.offset, P.cellsOf fd.type)) E.w := by
        rw [Array.mapM_eq_mapM_toList]
        have := mapM_run (P := P) (fun f : Field => (do pure (f.offset, ← sizeOf f.type) : Sem (Nat × Nat))) (fun fd => (fd.offset, P.cellsOf fd.type)) E.w fs.toList (fun fd hfd => by
          obtain ⟨i, hi⟩ := List.getElem?_of_mem hfd
          have hlt : i < ty.offs.length := by rw [← hsz]; have := (List.getElem?_eq_some_iff.1 hi).1; simpa using this
          obtain ⟨fd', a1, a2, a3, a4⟩ := hfs i _ _ (List.getElem?_eq_getElem hlt)
          have : fd' = fd := by
            have h2 : fs[i]? = some fd := by simpa using hi
            exact Option.some.inj (a1.symm.trans h2)
          subst this
          have hinfo : ∃ inf, P.info? fd'.type = some inf := by
            cases hinf : P.info? fd'.type with
            | none => rw [← a3] at a4; simp [Program.cellsOf, hinf] at a4
            | some inf => exact ⟨inf, rfl⟩
          obtain ⟨inf, hinf⟩ := hinfo
          simp [sizeOf, typeInfo, hinf, Program.cellsOf])
        simp only [map_eq_pure_bind, Sem.run_bind, this, Result.andThen_ok, Sem.run_pure]
        congr 1
        rw [← Array.toList_map]
      simp only [execOp, ho, Instr.build, Sem.run_bind, hz1, Result.andThen_ok, run_underlying hu, hplaces, hzc]
      have e1' : Instr.fill (fun x => (fs.map fun fd => (fd.offset, P.cellsOf fd.type))[x]?) (ty.cts.map zeroV).toArray (parts.map fun (i, x) => (i, E.a.eval x)).toList = some us'.toArray := by
        rw [Array.toList_map]; exact e1
      rw [e1']
      rfl
    · exact hw.elim
  · exact hw.elim
end Go.Proofs.YtijnlnmoellbaaaGreat.Ab
