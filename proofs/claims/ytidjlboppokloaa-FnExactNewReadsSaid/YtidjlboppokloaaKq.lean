/- A structure is stored into an element of a slice that owns all that it leads to. No program in sight. -/
import Derived.Test.YtidjlboppokloaaKp
import Derived.Test.YtidjlboppokloaaMd2
namespace Go.Proofs.Ytidjlboppokloaa.Ab
open Go.RowKit
set_option linter.unusedVariables false
section
variable {T : Tab} {e : TypeId} {ty : Ty} {g n cap : Nat}
theorem set_row {rows : List (List D)} {k : Nat} (hk : k < rows.length) (r : List D) : (rows.set k r).getD k [] = r := by
  simp [List.getD_eq_getElem?_getD, hk]
theorem overlay_cons {r : List D} {s : Nat} {d : D} {ds : List D} (hs : s < r.length) : overlay (r.set s d) (s + 1) ds = overlay r s (d :: ds) := by
  unfold overlay
  have h1 : (r.set s d).take (s + 1) = r.take s ++ [d] := by
    rw [List.take_add_one, List.take_set_of_le (Nat.le_refl _), List.getElem?_set_self hs]
    rfl
  rw [h1, List.drop_set_of_lt (by omega), List.length_cons, show s + 1 + ds.length = s + (ds.length + 1) by omega]
  simp [List.append_assoc]
theorem DeepV.puts (he : T e = Option.some ty) {k : Nat} (hk : k < n) : ∀ (us : List Value) (ds : List D) (s : Nat) (w : World) (F : Nat → Prop) (rows : List (List D)) (G : Nat → Nat → Prop), us.length = ds.length → s + us.length ≤ ty.cts.length →
    DeepV T w F (.l e) (.slice (Option.some ⟨g, 0, none⟩) n cap) (.l rows) → F g →
    (∀ i ct u d, ty.cts[s + i]? = Option.some ct → us[i]? = Option.some u → ds[i]? = Option.some d → DeepV T w (G (s + i)) ct u d) →
    (∀ i b, s ≤ i → G i b → ¬ F b) → (∀ i i' b, G i b → G i' b → i = i') →
    ∃ F' : Nat → Prop, DeepV T (w.setCells g (k * ty.cts.length + s) us) F' (.l e) (.slice (Option.some ⟨g, 0, none⟩) n cap) (.l (rows.set k (overlay (rows.getD k []) s ds))) ∧ ∀ b, F' b → F b ∨ ∃ i, G i b
  | [], [], s, w, F, rows, G, _, _, h, _, _, _, _ => by
    refine ⟨F, ?_, fun b hb => .inl hb⟩
    have hl := h.len
    have hr : rows.set k (overlay (rows.getD k []) s []) = rows := by
      have e1 : overlay (rows.getD k []) s [] = rows.getD k [] := by simp [overlay]
      rw [e1, List.getD_eq_getElem?_getD, List.getElem?_eq_getElem (show k < rows.length by omega)]
      simp
    rw [hr]
    exact h
  | [], _ :: _, _, _, _, _, _, hl, _, _, _, _, _, _ => by cases hl
  | _ :: _, [], _, _, _, _, _, hl, _, _, _, _, _, _ => by cases hl
  | u :: us, d :: ds, s, w, F, rows, G, hl, hs, h, hF, hc, hd, hi => by
    have hn := h.len
    have hs' : s + (us.length + 1) ≤ ty.cts.length := hs
    have hsl : s < ty.cts.length := by omega
    obtain ⟨ty', xs, G0, a1, a2, a3, _⟩ := h.inv
    obtain rfl : ty = ty' := Option.some.inj (he.symm.trans a1)
    have hrow : rows[k]? = Option.some (rows.getD k []) := by simp [List.getD_eq_getElem?_getD, List.getElem?_eq_getElem (show k < rows.length by omega)]
    have hrl := a3 k _ hrow
    have h0 := hc 0 _ u d (List.getElem?_eq_getElem (show s + 0 < ty.cts.length by omega)) rfl rfl
    obtain ⟨F1, p1, p2, p3⟩ := DeepV.put h he hk (List.getElem?_eq_getElem hsl) rfl h0 (fun b hb => hd s b (Nat.le_refl _) (by simpa using hb))
    have hblk : ∀ b, b ≠ g → (w.setCell ⟨g, k * ty.cts.length + s, none⟩ u).heap[b]? = w.heap[b]? := fun b hb => by simp [World.setCell, Array.getElem?_modify, Ne.symm hb]
    obtain ⟨F', r1, r2⟩ := DeepV.puts he hk us ds (s + 1) _ F1 (setD rows k s d) G (by simpa using hl) (by omega) p1 p3 (fun i ct u' d' x1 x2 x3 => by
      have := hc (i + 1) ct u' d' (by rw [← x1]; congr 1; omega) (by simpa using x2) (by simpa using x3)
      rw [show s + (i + 1) = s + 1 + i by omega] at this
      exact this.move fun b hb => hblk b (fun hbg => hd _ b (by omega) hb (hbg ▸ hF))) (fun i b hi' hb hb1 => by
      rcases p2 b hb1 with hx | hx
      · exact hd i b (by omega) hb hx
      · have := hi _ _ b (show G (s + 0) b from hx) hb
        omega) hi
    refine ⟨F', ?_, fun b hb => ?_⟩
    · have e2 : (setD rows k s d).set k (overlay ((setD rows k s d).getD k []) (s + 1) ds) = rows.set k (overlay (rows.getD k []) s (d :: ds)) := by
        unfold setD
        rw [set_row (by omega), List.set_set, overlay_cons (by omega)]
      rw [← e2]
      exact r1
    · rcases r2 b hb with hx | hx
      · rcases p2 b hx with hy | hy
        · exact .inl hy
        · exact .inr ⟨_, hy⟩
      · exact .inr hx
end
variable {P : Program} {T : Tab} {W : Base} {N : Nat}
def stepPokeD (T : Tab) (o : Oper) (t : TypeId) (x y : Operand) : Pg :=
  match o.dst, T t with
  | none, some ty => rdv x fun sx => rdv y fun sy => match sx, sy with
    | .optr q j n k c p, .val ag cs => if ag = ty.agg ∧ cs.length = ty.cts.length ∧ p = 0 then movs cs fun cs' => match toDps ty.cts cs' with
        | some ds => look q j n fun ag0 cs0 own e rows => match T e with
          | some te => if own = true ∧ dpT T e = true ∧ te.cts.length = c ∧ te.cts = ty.cts then
              .chk (k < rows.length) (.setF 0 q (.val ag0 (cs0.set j (.sl true e (pokeRow rows k 0 ds)))) .done) else .fail
          | none => .fail
        | none => .fail
      else .fail
    | _, _ => .fail
  | _, _ => .fail
theorem pokeD_ok (hT : TabOk P T) {o : Oper} {t : TypeId} {x y : Operand} (ho : o.op = .store t x y) : OpOk P T W N o (stepPokeD T o t x y) := by
  intro E Q K Qx h hw hK
  unfold stepPokeD at hw
  split at hw
  · rename_i ty hd hty
    obtain ⟨sx, h1, _f1, h3⟩ := rdv_sound h hw (.slot N)
    obtain ⟨sy, h4, f4, h6⟩ := rdv_sound h h3 (.slot N)
    split at h6
    · rename_i q j n k c p ag cs
      split at h6
      · rename_i hlen
        obtain ⟨hag, hcsl, rfl⟩ := hlen
        obtain ⟨E', cs', us, r1, s1, c1, t1, e1, _, _, el, w1⟩ := movs_val h h4 (cellsFree_of_free f4) h6
        have hx := RelSV.step_free (l := .slot N) (sv := .optr q j n k c 0) h1 s1.step rfl
        split at w1
        · rename_i ds hds
          obtain ⟨d1, d2, d3⟩ := toDps_spec hds
          have hn : (E'.σ q).1 = n := by
            cases q with
            | slot t' => exact (lookAt_spec (show (lookAt (.slot t') j n _).wp Q E'.σ from w1)).1
            | cell t' j' =>
              have w1' := w1
              unfold look at w1'
              simp only [Pg.wp] at w1'
              split at w1'
              · split at w1'
                · exact (lookAt_spec w1').1
                · exact w1'.elim
              · exact w1'.elim
            | gen t' => exact w1.elim
          obtain ⟨x1, x2⟩ := hx
          obtain ⟨b, o', len, cap, y1, y2⟩ := x2 hn
          obtain ⟨ag0, cs0, own, e, rows, l1, l2, l3, l4, l5⟩ := look_sound r1 w1 (l := .slot N) (j := 0) ⟨x1, fun _ => y1⟩
          split at l5
          · rename_i te hte
            split at l5
            · rename_i hc
              obtain ⟨rfl, hdp, hcl, hct⟩ := hc
              obtain ⟨hk, hw'⟩ := l5
              rw [Pg.setF_eq] at hw'
              have hDq : DeepV T E'.w (E'.bk q j) (.l e) (.slice (some ⟨b, o', none⟩) len cap) (.l rows) := OwnF.deep l4 hdp
              have hTd : T.dp = true := by
                cases hq : T.dp with
                | true => rfl
                | false => unfold dpT at hdp; rw [hq] at hdp; cases hdp
              obtain ⟨ty', xs, G0, i1, i2, i3, i4, _⟩ := hDq.inv
              obtain rfl : te = ty' := Option.some.inj (hte.symm.trans i1)
              obtain ⟨cur, hv0, hcur, hcap, hcs⟩ : ∃ cur, o' = 0 ∧ E'.w.heap[b]? = some (.cells cur e (0, 0)) ∧ rows.length ≤ cap ∧ cur.size = cap * te.cts.length := by
                rcases i2.2 with ⟨hv, _⟩ | ⟨g, cap', cur, hv, g2, g3, g4, g5, g6, g7⟩
                · cases hv
                · simp only [Value.slice.injEq, Option.some.injEq, Addr.mk.injEq] at hv
                  obtain ⟨⟨rfl, rfl, _⟩, rfl, rfl⟩ := hv
                  exact ⟨cur, rfl, g3, g4, g6⟩
              subst hv0
              have hFg : E'.bk q j b := (i4 b).2 (.inl rfl)
              have hlr : len = rows.length := hDq.len
              have hul : us.length = ty.cts.length := el.trans hcsl
              have hqN : q ≠ .slot N := fun hq => by subst hq; exact r1.ghost l1 l2
              obtain ⟨F', p1, p2⟩ := DeepV.puts hte (k := k) (by rw [hlr]; exact hk) us ds 0 E'.w (E'.bk q j) rows (fun i b' => (∃ c', cs'[i]? = some c' ∧ c'.isOwn = true) ∧ E'.bk (.slot N) i b') (by omega) (by rw [hct]; omega) hDq hFg (fun i ct u d a1 a2 a3 => by
                have hi : i < cs'.length := by rw [d1, ← hul]; exact (List.getElem?_eq_some_iff.1 a2).1
                have hci : cs'[i]? = some cs'[i] := List.getElem?_eq_getElem hi
                have hr := (c1.2 i cs'[i] u hci a2).deepV hTd (d3 i ct _ d (by rw [← hct]; simpa using a1) hci a3)
                rw [Nat.zero_add] at hr ⊢
                have e2 : (fun b' => cs'[i].isOwn = true ∧ E'.bk (.slot N) i b') = fun b' => (∃ c', cs'[i]? = some c' ∧ c'.isOwn = true) ∧ E'.bk (.slot N) i b' := by
                  funext b'
                  refine propext ⟨fun ⟨z1, z2⟩ => ⟨⟨_, hci, z1⟩, z2⟩, fun ⟨⟨c', z0, z1⟩, z2⟩ => ?_⟩
                  obtain rfl := Option.some.inj (hci.symm.trans z0)
                  exact ⟨z1, z2⟩
                rw [← e2]
                exact hr) (fun i b' _ hb hb2 => hqN (r1.owinj _ _ _ _ _ hb2 hb.2).1) (fun i i' b' hb hb' => (r1.owinj _ _ _ _ _ hb.2 hb'.2).2)
              have hpk := r1.pokeD (g := b) (o := k * te.cts.length + 0) (us := us) (F' := F') (rows' := pokeRow rows k 0 ds) l1 l2 l3 hFg hdp (fun b' hb' => (p2 b' hb').imp id fun ⟨i, hi⟩ => ⟨i, hi.2⟩) p1
              rw [hcl] at hpk
              have hthere : E'.w.there b (k * c + 0) us.length := by
                intro i hi
                have hkc : (k + 1) * te.cts.length ≤ cap * te.cts.length := Nat.mul_le_mul_right _ (by omega)
                rw [Nat.succ_mul, hcl] at hkc
                have htl : te.cts.length = ty.cts.length := by rw [hct]
                have hlt : k * c + 0 + i < cur.size := by rw [hcs, hcl]; omega
                refine ⟨?_, ?_⟩
                · rw [cell_of_row _ _ _ cur e (0, 0) hcur, Array.getElem?_eq_getElem hlt]; rfl
                · unfold World.frozen?
                  rw [hcur]
                  simp
              have hrun := run_store hT ho hty (E := E') (b := b) (p := k * c + 0) (by rw [s1.a]; rw [y2]; simp) (us := us) (by rw [s1.a]; exact e1) hul (c1.one t1) hthere
              refine s1.run ?_
              unfold Oper.wp
              rw [hrun, Oper.upon_skip, hd]
              exact hK _ hpk hw'
            · exact l5.elim
          · exact l5.elim
        · exact w1.elim
      · exact h6.elim
    · exact h6.elim
  · exact hw.elim
def ctL : CT → Bool
  | .l _ => true
  | _ => false
/-- A store, through whatever pointer; structures with slices into what owns in depth. -/
def stepStoreAny2 (T : Tab) (o : Oper) (t : TypeId) (x y : Operand) : Pg :=
  match T.dp, (T t).elim false (fun ty => ty.cts.any ctL) with
  | true, true => rdv x fun sx => match sx with
    | .optr .. => stepPokeD T o t x y
    | _ => stepStoreAny T o t x y
  | _, _ => stepStoreAny T o t x y
theorem storeAny2_ok (hT : TabOk P T) {o : Oper} {t : TypeId} {x y : Operand} (ho : o.op = .store t x y) : OpOk P T W N o (stepStoreAny2 T o t x y) := by
  intro E Q K Qx h hw hK
  unfold stepStoreAny2 at hw
  split at hw
  · obtain ⟨sx, h1, _f1, h3⟩ := rdv_sound h hw (.slot N)
    split at h3
    · exact pokeD_ok hT ho E Q K Qx h h3 hK
    · exact storeAny_ok hT ho E Q K Qx h h3 hK
  · exact storeAny_ok hT ho E Q K Qx h hw hK
end Go.Proofs.Ytidjlboppokloaa.Ab
