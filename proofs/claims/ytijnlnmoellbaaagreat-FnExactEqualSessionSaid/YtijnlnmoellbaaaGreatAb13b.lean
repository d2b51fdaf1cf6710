/- Elements stored; bools and structures compared. No program in sight. -/
import Derived.Test.YtijnlnmoellbaaaGreatAb13
import Derived.Test.YtijnlnmoellbaaaGreatAb9b
import Derived.Laws.StructEq
namespace Go.Proofs.YtijnlnmoellbaaaGreat.Ab
open Go.RowKit
variable {P : Program} {T : Tab} {W : Base} {N : Nat}

def stepPoke (T : Tab) (o : Oper) (t : TypeId) (x y : Operand) : Pg :=
  match o.dst, T t with
  | none, some ty => rdv x fun sx => rdv y fun sy => match sx, sy with
    | .optr q j n k c p, .val ag cs => if ag = ty.agg ∧ cs.length = ty.cts.length then pubs cs fun cs' => match toDs ty.cts cs' with
        | some ds => look q j n fun ag0 cs0 own e rows => match T e with
          | some te => if own = true ∧ te.cts.length = c ∧ (te.cts.drop p).take ty.cts.length = ty.cts ∧ p + ty.cts.length ≤ te.cts.length then
              .chk (k < rows.length) (.setF 0 q (.val ag0 (cs0.set j (.sl true e (pokeRow rows k p ds)))) .done) else .fail
          | none => .fail
        | none => .fail
      else .fail
    | _, _ => .fail
  | _, _ => .fail
theorem poke_ok (hT : TabOk P T) {o : Oper} {t : TypeId} {x y : Operand} (ho : o.op = .store t x y) : OpOk P T W N o (stepPoke T o t x y) := by
  intro E Q K Qx h hw hK
  unfold stepPoke at hw
  split at hw
  · rename_i ty hd hty
    obtain ⟨sx, h1, _f1, h3⟩ := rdv_sound h hw (.slot N)
    obtain ⟨sy, h4, f4, h6⟩ := rdv_sound h h3 (.slot N)
    split at h6
    · rename_i q j n k c p ag cs
      split at h6
      · rename_i hlen
        obtain ⟨E', cs', us, r1, s1, c1, t1, g1, e1, el, _, _, w1⟩ := pubs_val h h4 (cellsFree_of_free f4) h6
        have hx := RelSV.step_free (l := .slot N) (sv := .optr q j n k c p) h1 s1.step rfl
        split at w1
        · rename_i ds hds
          obtain ⟨d1, d2, d3⟩ := toDs_spec hds
          have hn : (E'.σ q).1 = n := by
            cases q with
            | slot t' => exact (lookAt_spec (show (lookAt (.slot t') j n _).wp Q E'.σ from w1)).1
            | cell t' j' =>
              have w1' := w1
              unfold look at w1'
              simp only [Pg.wp] at w1'
              split at w1'
              · split at w1'
                · exact (lookAt_spec w1').1
                · exact w1'.elim
              · exact w1'.elim
            | gen t' => exact w1.elim
          obtain ⟨x1, x2⟩ := hx
          obtain ⟨b, o', len, cap, y1, y2⟩ := x2 hn
          obtain ⟨ag0, cs0, own, e, rows, l1, l2, l3, l4, l5⟩ := look_sound r1 w1 (l := .slot N) (j := 0) ⟨x1, fun _ => y1⟩
          split at l5
          · rename_i te hte
            split at l5
            · rename_i hc
              obtain ⟨rfl, hcl, hct, hpty⟩ := hc
              obtain ⟨hk, hw'⟩ := l5
              rw [Pg.setF_eq] at hw'
              have hob : o' = 0 := by
                obtain ⟨⟨_, _, _, o2, _⟩, _⟩ := l4
                rcases o2.2 with ⟨hv, _⟩ | ⟨g, cap', cur, hv, _⟩
                · cases hv
                · simp only [Value.slice.injEq, Option.some.injEq, Addr.mk.injEq] at hv
                  exact hv.1.2.1
              subst hob
              have hul : us.length = ty.cts.length := el.trans hlen.2
              have hpl : p + us.length ≤ te.cts.length := by omega
              have hcts : ∀ i, i < ty.cts.length → te.cts[p + i]? = ty.cts[i]? := by
                intro i hi
                conv => rhs; rw [← hct]
                rw [List.getElem?_take, if_pos hi, List.getElem?_drop]
              have hpk := r1.poke (k := k) (p := p) (us := us) (ds := ds) l1 l2 l3 l4 hte (g := b) rfl hk hpl (by omega) (fun i ct u d hi hu hd' => by
                have hil : i < ty.cts.length := by rw [← hul]; exact (List.getElem?_eq_some_iff.1 hu).1
                rw [hcts i hil] at hi
                have hic : i < cs'.length := by rw [d1]; exact hil
                exact (c1.2 i cs'[i] u (List.getElem?_eq_getElem hic) hu).rdR (d3 i ct _ d hi (List.getElem?_eq_getElem hic) hd'))
              rw [hcl] at hpk
              have hthere : E'.w.there b (k * c + p) us.length := by
                intro i hi
                obtain ⟨⟨ty', xs, q1, q2, q3, q4⟩, _⟩ := l4
                rw [hte] at q1
                obtain rfl := Option.some.inj q1
                rcases q2.2 with ⟨hv, _⟩ | ⟨g, cap', cur, hv, g2, g3, g4, g5, g6, g7⟩
                · cases hv
                · simp only [Value.slice.injEq, Option.some.injEq, Addr.mk.injEq] at hv
                  obtain ⟨⟨rfl, _⟩, _⟩ := hv
                  have hkc : (k + 1) * te.cts.length ≤ cap' * te.cts.length := Nat.mul_le_mul_right _ (by omega)
                  rw [Nat.succ_mul, hcl] at hkc
                  have hlt : k * c + p + i < cur.size := by rw [g6, hcl]; omega
                  refine ⟨?_, ?_⟩
                  · rw [cell_of_row _ _ _ cur e (0, 0) g3]; simp [hlt]
                  · unfold World.frozen?
                    rw [g3]
                    simp
              have hrun := run_store hT ho hty (E := E') (b := b) (p := k * c + p) (by rw [s1.a]; rw [y2]; simp) (us := us) (by rw [s1.a]; exact e1) hul (c1.one t1) hthere
              refine s1.run ?_
              unfold Oper.wp
              rw [hrun, Oper.upon_skip, hd]
              exact hK _ hpk hw'
            · exact l5.elim
          · exact l5.elim
        · exact w1.elim
      · exact h6.elim
    · exact h6.elim
  · exact hw.elim
/-- A store, through whatever pointer. -/
def stepStoreAny (T : Tab) (o : Oper) (t : TypeId) (x y : Operand) : Pg :=
  rdv x fun sx => match sx with
    | .optr .. => stepPoke T o t x y
    | _ => stepStore T o t x y
theorem storeAny_ok (hT : TabOk P T) {o : Oper} {t : TypeId} {x y : Operand} (ho : o.op = .store t x y) : OpOk P T W N o (stepStoreAny T o t x y) := by
  intro E Q K Qx h hw hK
  obtain ⟨sx, h1, _f1, h3⟩ := rdv_sound h hw (.slot N)
  split at h3
  · exact poke_ok hT ho E Q K Qx h h3 hK
  · exact store_ok hT ho E Q K Qx h h3 hK

/-! Bools and structures compared -/
def negIf (op : BinOp) (r : Bool) : Option Bool :=
  match op with
  | .eql => some r
  | .neq => some (!r)
  | _ => none
def stepEqB (N : Nat) (o : Oper) (op : BinOp) (x y : Operand) : Pg :=
  rdv x fun sx => rdv y fun sy => match sx, sy with
    | .val false [.b a], .val false [.b b] => match negIf op (a == b) with
      | some r => dstSet N o (.val false [.b r])
      | none => .fail
    | _, _ => .fail
theorem eqB_ok {o : Oper} {op : BinOp} {t t' : TypeId} {x y : Operand} (ho : o.op = .binOp op t x y t') (hu : P.underlying t = some .bool) : OpOk P T W N o (stepEqB N o op x y) := by
  intro E Q K Qx h hw hK
  obtain ⟨sx, h1, _f1, h3⟩ := rdv_sound h hw (.slot N)
  obtain ⟨sy, h4, _f4, h6⟩ := rdv_sound h h3 (.slot N)
  split at h6
  · rename_i a b
    have ea := h1.bool
    have eb := h4.bool
    have hg : ∀ op, (eqGuard op t x y (.bool a) (.bool b)).run P E.w = .ok () E.w := by intro op; cases op <;> simp [eqGuard]
    have he := run_equal_bool (P := P) E.w t a b hu
    split at h6
    · rename_i r hr
      refine sound_value h (v := .bool r) ?_ (mkBool E _ _) h6 hK
      cases op <;> simp only [negIf, Option.some.injEq, reduceCtorEq] at hr <;> (subst hr; simp [execOp, ho, ea, eb, binOp, hg, he])
    · exact h6.elim
  · exact h6.elim
def stepEqS (N : Nat) (o : Oper) (cts : List CT) (op : BinOp) (x y : Operand) : Pg :=
  rdv x fun sx => rdv y fun sy => match sx, sy with
    | .val true a, .val true b => match toDs cts a, toDs cts b with
      | some da, some db => match fitDs cts da, fitDs cts db, negIf op (eqDs cts da db) with
        | true, true, some r => dstSet N o (.val false [.b r])
        | _, _, _ => .fail
      | _, _ => .fail
    | _, _ => .fail
theorem vals_of {E : Env} : ∀ {cts : List CT} {cs : List CV} {us : List Value} {ds : List D} {l : Loc} {j : Nat}, CellsR T W E l j cs us → toDs cts cs = some ds → fitDs cts ds = true → us = valsOf cts ds
  | [], [], us, ds, l, j, h, hd, hf => by
    obtain rfl := Option.some.inj hd
    exact List.length_eq_zero_iff.1 h.1.symm
  | [], _ :: _, us, ds, l, j, h, hd, hf => by cases hd
  | _ :: _, [], us, ds, l, j, h, hd, hf => by cases hd
  | ct :: r, c :: cs, us, ds, l, j, h, hd, hf => by
    simp only [toDs] at hd
    split at hd
    · rename_i d ds' h1 h2
      obtain rfl := Option.some.inj hd
      cases us with
      | nil => exact absurd h.1 (by simp)
      | cons u us =>
        simp only [fitDs, Bool.and_eq_true] at hf
        have hr : CellsR T W E l (j + 1) cs us := by
          refine ⟨by simpa using h.1, fun i c0 u0 hc0 hu0 => ?_⟩
          have := h.2 (i + 1) c0 u0 (by simpa using hc0) (by simpa using hu0)
          rw [show j + 1 + i = j + (i + 1) by omega]
          exact this
        have := vals_of hr h2 hf.2
        have hu := (h.2 0 c u rfl rfl).rdR h1
        simp only [valsOf, this]
        congr 1
        cases hu with
        | int k n hk => rfl
        | bool x => rfl
        | str x hx => rfl
        | nil e A c' hc => cases hf.1
        | sl e ty b o c' rows vs q1 q2 q3 q4 q5 q6 q7 q8 => cases hf.1
    · cases hd
theorem eqS_ok {o : Oper} {op : BinOp} {t t' : TypeId} {x y : Operand} {cts : List CT} (ho : o.op = .binOp op t x y t') (hq : EqFact P t cts) : OpOk P T W N o (stepEqS N o cts op x y) := by
  intro E Q K Qx h hw hK
  obtain ⟨sx, h1, _f1, h3⟩ := rdv_sound h hw (.slot N)
  obtain ⟨sy, h4, _f4, h6⟩ := rdv_sound h h3 (.slot N)
  split at h6
  · rename_i a b
    split at h6
    · rename_i da db hda hdb
      split at h6
      · rename_i r hfa hfb hr
        obtain ⟨us, ea, ca⟩ := h1.cellsR
        obtain ⟨vs, eb, cb⟩ := h4.cellsR
        have va := vals_of ca hda hfa
        have vb := vals_of cb hdb hfb
        rw [va] at ea
        rw [vb] at eb
        have hg : ∀ op, (eqGuard op t x y (.agg (valsOf cts da).toArray) (.agg (valsOf cts db).toArray)).run P E.w = .ok () E.w := fun op => run_eqGuard_agg E.w op t x y _ _ hq.1
        have he := hq.2 E.w da db hfa hfb
        refine sound_value h (v := .bool r) ?_ (mkBool E _ _) h6 hK
        cases op <;> simp only [negIf, Option.some.injEq, reduceCtorEq] at hr
        · subst hr
          simp only [execOp, ho, ea, eb, Sem.run_bind, hg, Result.andThen_ok, run_eql_struct, he]; rfl
        · subst hr
          simp only [execOp, ho, ea, eb, Sem.run_bind, hg, Result.andThen_ok, run_neq_struct, he]; rfl
      · exact h6.elim
    · exact h6.elim
  · exact h6.elim
def stepBinAny (T : Tab) (N : Nat) (o : Oper) (op : BinOp) (t : TypeId) (x y : Operand) : Pg :=
  match T t with
  | some ty => match ty.eq, ty.agg, ty.cts with
    | true, _, cts => stepEqS N o cts op x y
    | _, false, [.b] => stepEqB N o op x y
    | _, _, _ => stepBin N o op x y
  | none => stepBin N o op x y
theorem binAny_ok (hT : TabOk P T) {o : Oper} {op : BinOp} {t t' : TypeId} {x y : Operand} (ho : o.op = .binOp op t x y t') : OpOk P T W N o (stepBinAny T N o op t x y) := by
  unfold stepBinAny
  split
  · rename_i ty hty
    split
    · rename_i hq; exact eqS_ok ho ((hT t ty hty).eqf hq)
    · rename_i hag hcts hov
      obtain ⟨c, hc, hu⟩ := (hT t ty hty).one hag
      rw [hcts] at hc
      obtain rfl : CT.b = c := by simpa using hc
      exact eqB_ok ho hu
    · exact bin_ok ho
  · exact bin_ok ho
end Go.Proofs.YtijnlnmoellbaaaGreat.Ab
