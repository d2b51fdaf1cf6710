/- Loads, elements' addresses, texts' bytes, lengths, parts. No program in sight. -/
import Derived.Test.YtijnlnmoellbaaaGreatAb6
namespace Go.Proofs.YtijnlnmoellbaaaGreat.Ab
open Go.RowKit
variable {P : Program} {T : Tab} {W : Base} {N : Nat}

theorem oCells_get {cts : List CT} {row : List D} {p n j : Nat} {c : CV} (h : (oCells cts row p n)[j]? = some c) : ∃ ct, cts[p + j]? = some ct ∧ j < n ∧ c = ofD ct (row.getD (p + j) default) := by
  unfold oCells at h
  rw [List.getElem?_map, List.getElem?_zipIdx] at h
  cases hc : ((cts.drop p).take n)[j]? with
  | none => rw [hc] at h; cases h
  | some ct =>
    rw [hc] at h
    obtain rfl := Option.some.inj h
    rw [List.getElem?_take] at hc
    split at hc
    · rename_i hj
      exact ⟨ct, by simpa using hc, hj, by simp⟩
    · cases hc
theorem oCells_length {cts : List CT} {row : List D} {p n : Nat} : (oCells cts row p n).length = min n (cts.length - p) := by
  simp [oCells]
/-- A row of a slice, wherever it stands: its cells in memory. -/
theorem slice_row {E : Env} {q : Loc} {i : Nat} {u : Value} {own : Bool} {e : TypeId} {rows : List (List D)} (h : RelCV T W E q i u (.sl own e rows)) {te : Ty} (he : T e = some te) {k : Nat} (hk : k < rows.length) :
    ∃ b o cap, u = .slice (some ⟨b, o, none⟩) rows.length cap ∧ (rows.getD k []).length = te.cts.length ∧
      ∀ (j : Nat) ct, te.cts[j]? = some ct → ∃ v, E.w.cell? ⟨b, o + k * te.cts.length + j, none⟩ = some v ∧ RdR T E.w E.X ct v ((rows.getD k []).getD j default) := by
  have hrow : rows[k]? = some (rows.getD k []) := by simp [List.getD_eq_getElem?_getD, List.getElem?_eq_getElem hk]
  cases own with
  | true =>
    obtain ⟨⟨ty, xs, h1, h2, h3, h4⟩, _⟩ := h
    rw [he] at h1
    obtain rfl := Option.some.inj h1
    rcases h2.2 with ⟨rfl, hn⟩ | ⟨g, cap, cur, rfl, e2, e3, e4, e5, e6, e7⟩
    · omega
    · have hl := h3 k _ hrow
      refine ⟨g, 0, cap, rfl, hl, fun j ct hct => ?_⟩
      have hj : j < te.cts.length := (List.getElem?_eq_some_iff.1 hct).1
      have hd : (rows.getD k [])[j]? = some ((rows.getD k []).getD j default) := by
        rw [List.getD_eq_getElem?_getD (i := j), List.getElem?_eq_getElem (by omega)]; rfl
      obtain ⟨v, hv, hr⟩ := h4 k j ct _ _ hrow hct hd
      refine ⟨v, ?_, hr⟩
      have := h2.cells (g := g) rfl _ v hv
      rw [Addr.add_mid] at this
      rw [Nat.add_assoc]; exact this
  | false =>
    have h' : RdR T E.w E.X (.l e) u (.l rows) := h
    cases h' with
    | nil => simp at hk
    | sl _ ty b o c _ vs h1 h2 h3 h4 h5 h6 h7 h8 =>
      rw [he] at h1
      obtain rfl := Option.some.inj h1
      have hl := h7 k _ hrow
      refine ⟨b, o, c, rfl, hl, fun j ct hct => ?_⟩
      have hj : j < te.cts.length := (List.getElem?_eq_some_iff.1 hct).1
      have hd : (rows.getD k [])[j]? = some ((rows.getD k []).getD j default) := by
        rw [List.getD_eq_getElem?_getD (i := j), List.getElem?_eq_getElem (by omega)]; rfl
      exact ⟨_, h6 k j hk hj, h8 k j ct _ _ hrow hct hd⟩
theorem slice_len {E : Env} {q : Loc} {i : Nat} {u : Value} {own : Bool} {e : TypeId} {rows : List (List D)} (h : RelCV T W E q i u (.sl own e rows)) : ∃ A cap, u = .slice A rows.length cap ∧ rows.length ≤ cap ∧ cap ≤ maxLen := by
  cases own with
  | true =>
    obtain ⟨⟨ty, xs, h1, h2, h3, h4⟩, _⟩ := h
    rcases h2.2 with ⟨rfl, hn⟩ | ⟨g, cap, cur, rfl, e2, e3, e4, e5, e6, e7⟩
    · exact ⟨none, 0, by rw [hn], by omega, Nat.zero_le _⟩
    · exact ⟨_, cap, rfl, e4, e5⟩
  | false =>
    have h' : RdR T E.w E.X (.l e) u (.l rows) := h
    cases h' with
    | nil _ A c hc => exact ⟨A, c, rfl, Nat.zero_le _, hc⟩
    | sl _ ty b o c _ vs h1 h2 h3 h4 h5 h6 h7 h8 => exact ⟨_, c, rfl, h2, h3⟩

theorem load_ok (hT : TabOk P T) {o : Oper} {t : TypeId} {x : Operand} (ho : o.op = .load t x) : OpOk P T W N o (stepLoad T N o t x) := by
  intro E Q K Qx h hw hK
  unfold stepLoad at hw
  split at hw
  · rename_i ty hty
    obtain ⟨sv, h1, _f1, h3⟩ := rdv_sound h hw (.slot N)
    split at h3
    · rename_i b g p
      obtain ⟨e1, e2⟩ := h1
      simp only [Pg.wp] at h3
      split at h3
      · rename_i hg
        split at h3
        · rename_i m hm
          split at h3
          · rename_i hpm
            obtain ⟨cs, us, c1, c2, c3, c4, c5⟩ := getCells_sound h hm hpm h3
            obtain ⟨v, r1, r2⟩ := run_load hT ho hty (e2 hg) c1 c2 c4
            exact sound_value h r1 r2 c5 hK
          · exact h3.elim
        · exact h3.elim
      · exact h3.elim
    · rename_i ps
      obtain ⟨b, p, e1, e2, e3, e4⟩ := h1
      split at h3
      · rename_i cs hcs
        obtain ⟨a1, a2⟩ := rCells_spec hcs
        have hex : ∀ (l : List CV) (i : Nat), (∀ (j : Nat) c, l[j]? = some c → ∃ q, ps[i + j]? = some q ∧ c = ofD q.1 q.2) →
            ∃ us : List Value, us.length = l.length ∧ (∀ (j : Nat) u, us[j]? = some u → E.w.cell? ⟨b, p + (i + j), none⟩ = some u) ∧ ∀ (j : Nat) c u, l[j]? = some c → us[j]? = some u → ∀ l' j', RelCV T W E l' j' u c := by
          intro l
          induction l with
          | nil => intro i _; exact ⟨[], rfl, fun j u hu => by simp at hu, fun j c u hc => by simp at hc⟩
          | cons c r ih =>
            intro i hl
            obtain ⟨q, hq, rfl⟩ := hl 0 c rfl
            obtain ⟨u, hu, hr⟩ := e4 i q (by simpa using hq)
            obtain ⟨us, b1, b2, b3⟩ := ih (i + 1) (fun j c' hc' => by
              have := hl (j + 1) c' (by simpa using hc')
              rw [show i + 1 + j = i + (j + 1) by omega]; exact this)
            refine ⟨u :: us, by simp [b1], fun j u' hu' => ?_, fun j c' u' hc' hu' l' j' => ?_⟩
            · cases j with
              | zero => obtain rfl := Option.some.inj hu'; exact hu
              | succ j =>
                have := b2 j u' (by simpa using hu')
                rw [show i + (j + 1) = i + 1 + j by omega]; exact this
            · cases j with
              | zero =>
                obtain rfl := Option.some.inj hc'
                obtain rfl := Option.some.inj hu'
                exact hr.relCV l' j'
              | succ j => exact b3 j c' u' (by simpa using hc') (by simpa using hu') l' j'
        obtain ⟨us, b1, b2, b3⟩ := hex cs 0 (fun j c hc => by rw [Nat.zero_add]; exact a2 j c hc)
        obtain ⟨v, r1, r2⟩ := run_load (W := W) (N := N) hT ho hty e1 (cs := cs) (us := us) ⟨b1.symm, fun i c u hc hu => b3 i c u hc hu _ _⟩ a1 (fun j u hu => by have := b2 j u hu; rwa [Nat.zero_add] at this)
        exact sound_value h r1 r2 h3 hK
      · exact h3.elim
    · rename_i q j n k c p
      obtain ⟨e1, e2⟩ := h1
      by_cases hn : (E.σ q).1 = n
      · obtain ⟨b, o', len, cap, f1, f2⟩ := e2 hn
        obtain ⟨ag, cs, own, e, rows, g1, g2, g3, g4, g5⟩ := look_sound h h3 (l := .slot N) (j := 0) ⟨e1, fun _ => f1⟩
        split at g5
        · rename_i te hte
          split at g5
          · rename_i hc
            obtain ⟨hk, hw'⟩ := g5
            obtain ⟨b', o'', cap', s1, s2, s3⟩ := slice_row g4 hte hk
            simp only [Value.slice.injEq, Option.some.injEq, Addr.mk.injEq] at s1
            obtain ⟨⟨rfl, rfl, _⟩, _, _⟩ := s1
            have hct : ∀ j, j < ty.cts.length → te.cts[p + j]? = ty.cts[j]? := by
              intro j hj
              conv => rhs; rw [← hc.2]
              rw [List.getElem?_take, if_pos hj, List.getElem?_drop]
            have hlen : ty.cts.length ≤ te.cts.length - p := by
              have := congrArg List.length hc.2
              simp at this; omega
            have hex : ∀ j : Nat, j < ty.cts.length → ∃ v, E.w.cell? ⟨b, o' + k * c + p + j, none⟩ = some v ∧ ∀ ct, te.cts[p + j]? = some ct → RdR T E.w E.X ct v ((rows.getD k []).getD (p + j) default) := by
              intro j hj
              obtain ⟨v, hv, hr⟩ := s3 (p + j) _ ((hct j hj).trans (List.getElem?_eq_getElem hj))
              rw [hc.1] at hv
              refine ⟨v, by rw [Nat.add_assoc _ p j]; exact hv, fun ct hct' => ?_⟩
              rw [hct j hj, List.getElem?_eq_getElem hj] at hct'
              obtain rfl := Option.some.inj hct'
              exact hr
            let us : List Value := (List.range ty.cts.length).map fun j => (E.w.cell? ⟨b, o' + k * c + p + j, none⟩).getD undef
            have hus : ∀ (j : Nat) u, us[j]? = some u → j < ty.cts.length ∧ u = (E.w.cell? ⟨b, o' + k * c + p + j, none⟩).getD undef := by
              intro j u hu
              have hlt : j < us.length := (List.getElem?_eq_some_iff.1 hu).1
              have hj : j < ty.cts.length := by simpa [us] using hlt
              refine ⟨hj, ?_⟩
              simp only [us, List.getElem?_map, List.getElem?_range hj, Option.map_some, Option.some.injEq] at hu
              exact hu.symm
            obtain ⟨v, r1, r2⟩ := run_load (W := W) (N := N) hT ho hty (b := b) (p := o' + k * c + p) f2 (cs := oCells te.cts (rows.getD k []) p ty.cts.length) (us := us)
              ⟨by rw [oCells_length]; simp only [us, List.length_map, List.length_range]; omega, fun i c' u hc' hu => by
                obtain ⟨ct, w1, w2, rfl⟩ := oCells_get hc'
                obtain ⟨hj, rfl⟩ := hus i u hu
                obtain ⟨v, hv, hr⟩ := hex i hj
                rw [hv]
                exact (hr ct w1).relCV _ _⟩
              (by rw [oCells_length]; omega)
              (fun j u hu => by
                obtain ⟨hj, rfl⟩ := hus j u hu
                obtain ⟨v, hv, _⟩ := hex j hj
                rw [hv]; rfl)
            exact sound_value h r1 r2 hw' hK
          · exact g5.elim
        · exact g5.elim
      · exfalso
        cases q with
        | slot t' => exact hn (lookAt_spec (show (lookAt (.slot t') j n _).wp Q E.σ from h3)).1
        | cell t' j' =>
          unfold look at h3
          simp only [Pg.wp] at h3
          split at h3
          · split at h3
            · exact hn (lookAt_spec h3).1
            · exact h3
          · exact h3
        | gen t' => exact h3
    · exact h3.elim
  · exact hw.elim

/-! Addresses of elements -/
/-- The element type of a slice type. -/
def elemT (T : Tab) (t : TypeId) : Option (TypeId × Ty) :=
  match T t with
  | some ty => match ty.agg, ty.cts with
    | false, [.l e] => (T e).map fun te => (e, te)
    | _, _ => none
  | none => none
theorem elemT_spec (hT : TabOk P T) {t e : TypeId} {te : Ty} (h : elemT T t = some (e, te)) : P.underlying t = some (.slice e) ∧ TyOk P T e te ∧ T e = some te := by
  unfold elemT at h
  split at h
  · rename_i ty hty
    split at h
    · rename_i e' hag hcts
      cases hte : T e' with
      | none => rw [hte] at h; cases h
      | some te' =>
        rw [hte] at h
        simp only [Option.map_some, Option.some.injEq, Prod.mk.injEq] at h
        obtain ⟨rfl, rfl⟩ := h
        obtain ⟨c, hc, hu⟩ := (hT t ty hty).one hag
        rw [hcts] at hc
        obtain rfl : CT.l e' = c := by simpa using hc
        exact ⟨hu, hT e' te' hte, hte⟩
    · cases h
  · cases h
def stepIndexAddr (T : Tab) (N : Nat) (o : Oper) (t : TypeId) (x i : Operand) : Pg :=
  match elemT T t with
  | some (e0, te) => rdv x fun sv => rdv i fun si => match sv, si with
    | .val false [.sl false e rows], .val false [.i _ n] =>
      if e = e0 then .chk (0 ≤ n ∧ n < rows.length) (dstSet N o (.rptr (te.cts.zipIdx.map fun (ct, j) => (ct, (rows.getD n.toNat []).getD j default)))) else .fail
    | .val false [.al q j v], .val false [.i _ n] => look q j v fun _ _ _ e rows =>
      if e = e0 then .chk (0 ≤ n ∧ n < rows.length) (dstSet N o (.optr q j v n.toNat te.cts.length 0)) else .fail
    | _, _ => .fail
  | none => .fail
theorem run_indexAddr (hT : TabOk P T) {E : Env} {o : Oper} {t : TypeId} {x i : Operand} (ho : o.op = .indexAddr t x i) {e : TypeId} {te : Ty} (ht : elemT T t = some (e, te))
    {b p len cap : Nat} {k : IntKind} {n : Int} (hx : E.a.eval x = .slice (some ⟨b, p, none⟩) len cap) (hi : E.a.eval i = .int k n) (h0 : 0 ≤ n) (h1 : n < len) :
    (execOp E.a.eval o).run P E.w = .ok (.value (.pointer (some ⟨b, p + n.toNat * te.cts.length, none⟩))) E.w := by
  obtain ⟨hu, hte, _⟩ := elemT_spec hT ht
  obtain ⟨inf, i1, i2, _⟩ := hte.info
  simp only [execOp, ho, hx, hi, Instr.indexAt, asIntOf, Sem.run_bind, Sem.run_pure, Result.andThen_ok, run_underlying hu]
  rw [if_pos ⟨h0, h1⟩]
  simp [sizeOf, typeInfo, i1, i2, Addr.add_mid]
theorem RdR.place {T : Tab} {w : World} {X : Nat → Prop} {ct : CT} {v : Value} {d : D} (h : RdR T w X ct v d) : ∀ e b p len cap rows, ct = .l e → v = .slice (some ⟨b, p, none⟩) len cap → d = .l rows → 0 < rows.length → ¬ X b ∧ b < w.heap.size := by
  cases h with
  | sl e ty b o c rows vs h1 h2 h3 h4 h5 h6 h7 h8 =>
    intro _ _ _ _ _ _ _ e2 _ _
    simp only [Value.slice.injEq, Option.some.injEq, Addr.mk.injEq] at e2
    obtain ⟨⟨rfl, _, _⟩, _, _⟩ := e2
    exact ⟨h4, h5⟩
  | nil e A c h =>
    intro _ _ _ _ _ rows _ _ e3 hr
    simp only [D.l.injEq] at e3
    subst e3
    simp at hr
  | int k n h => intro _ _ _ _ _ _ e1; cases e1
  | bool x => intro _ _ _ _ _ _ e1; cases e1
  | str x h => intro _ _ _ _ _ _ e1; cases e1
theorem indexAddr_ok (hT : TabOk P T) {o : Oper} {t : TypeId} {x i : Operand} (ho : o.op = .indexAddr t x i) : OpOk P T W N o (stepIndexAddr T N o t x i) := by
  intro E Q K Qx h hw hK
  unfold stepIndexAddr at hw
  split at hw
  · rename_i e0 te ht
    obtain ⟨_, _, hte⟩ := elemT_spec hT ht
    obtain ⟨sx, h1, _f1, h3⟩ := rdv_sound h hw (.slot N)
    obtain ⟨sy, h4, _f4, h6⟩ := rdv_sound h h3 (.slot N)
    split at h6
    · rename_i e rows k n
      obtain ⟨ei, _⟩ := h4.int
      split at h6
      · rename_i he
        subst he
        obtain ⟨⟨n0, n1⟩, hw'⟩ := h6
        have hk : n.toNat < rows.length := by omega
        have hX := h1.cell1
        have hX' : RdR T E.w E.X (.l e) (E.a.eval x) (.l rows) := hX
        obtain ⟨b, p, cap, s1, s2, s3⟩ := slice_row hX hte hk
        refine sound_value h (run_indexAddr hT ho ht s1 ei n0 n1) ?_ hw' hK
        have hb : ¬ E.X b ∧ b < E.w.heap.size := hX'.place _ _ _ _ _ _ rfl s1 rfl (by omega)
        refine ⟨b, _, rfl, hb.1, hb.2, fun j q hq => ?_⟩
        rw [List.getElem?_map, List.getElem?_zipIdx] at hq
        cases hc : te.cts[j]? with
        | none => rw [hc] at hq; cases hq
        | some ct =>
          rw [hc] at hq
          obtain rfl := Option.some.inj hq
          obtain ⟨v, hv, hr⟩ := s3 j ct hc
          exact ⟨v, hv, by simpa using hr⟩
      · exact h6.elim
    · rename_i q j v k n
      obtain ⟨ei, _⟩ := h4.int
      have hal := h1.cell1
      obtain ⟨ag, cs, own, e, rows, g1, g2, g3, g4, g5⟩ := look_sound h h6 hal
      split at g5
      · rename_i he
        subst he
        obtain ⟨⟨n0, n1⟩, hw'⟩ := g5
        have hk : n.toNat < rows.length := by omega
        obtain ⟨b, p, cap, s1, s2, s3⟩ := slice_row g4 hte hk
        refine sound_value h (sv := .optr q j v n.toNat te.cts.length 0) (run_indexAddr hT ho ht s1 ei n0 n1) ⟨hal.1, fun _ => ⟨b, p, rows.length, cap, by rw [g3, s1], by simp⟩⟩ hw' hK
      · exact g5.elim
    · exact h6.elim
  · exact hw.elim

/-! A text's byte; lengths; kinds of numbers -/
def stepIndex (T : Tab) (N : Nat) (o : Oper) (t : TypeId) (x i : Operand) : Pg :=
  match T t with
  | some ty => match ty.agg, ty.cts with
    | false, [.s] => rdv x fun sv => rdv i fun si => match sv, si with
      | .val false [.s a], .val false [.i _ n] => .chk (0 ≤ n ∧ n < a.size) (dstSet N o (.val false [.i .u8 (a.data.getD n.toNat 0).toNat]))
      | _, _ => .fail
    | _, _ => .fail
  | none => .fail
theorem index_ok (hT : TabOk P T) {o : Oper} {t : TypeId} {x i : Operand} (ho : o.op = .index t x i) : OpOk P T W N o (stepIndex T N o t x i) := by
  intro E Q K Qx h hw hK
  unfold stepIndex at hw
  split at hw
  · rename_i ty hty
    split at hw
    · rename_i hag hcts
      obtain ⟨c, hc, hu⟩ := (hT t ty hty).one hag
      rw [hcts] at hc
      obtain rfl : CT.s = c := by simpa using hc
      obtain ⟨sx, h1, _f1, h3⟩ := rdv_sound h hw (.slot N)
      obtain ⟨sy, h4, _f4, h6⟩ := rdv_sound h h3 (.slot N)
      split at h6
      · rename_i a k n
        obtain ⟨ea, _⟩ := h1.str
        obtain ⟨ei, _⟩ := h4.int
        obtain ⟨⟨n0, n1⟩, hw'⟩ := h6
        have hk : n.toNat < a.size := by omega
        have hlt : (a.data.getD n.toNat 0).toNat < 256 := UInt8.toNat_lt _
        refine sound_value h (v := .int .u8 (a.data.getD n.toNat 0).toNat) ?_ (mkInt E _ _ _ ⟨by rw [show IntKind.u8.min = 0 by decide]; exact Int.natCast_nonneg _, by rw [show IntKind.u8.max = 255 by decide]; omega⟩) hw' hK
        have hget : a[n.toNat]? = some (a.data.getD n.toNat 0) := by
          have : n.toNat < a.data.size := hk
          rw [getElem?_pos a n.toNat hk]
          show some (a.data[n.toNat]) = some ((a.data.toList.toArray).getD n.toNat 0)
          rw [Array.getD_eq_getD_getElem?, Array.getElem?_eq_getElem (by simpa using this)]
          rfl
        simp only [execOp, ho, ea, ei, Instr.index, asIntOf, Sem.run_bind, Sem.run_pure, Result.andThen_ok, run_underlying hu]
        rw [if_pos n0, hget]
        rfl
      · exact h6.elim
    · exact hw.elim
  · exact hw.elim
def stepLen (T : Tab) (N : Nat) (o : Oper) (t : TypeId) (x : Operand) : Pg :=
  match T t with
  | some ty => match ty.agg, ty.cts with
    | false, [.s] => rdv x fun sv => match sv with
      | .val false [.s a] => dstSet N o (.val false [.i .i64 a.size])
      | _ => .fail
    | false, [.l _] => rdv x fun sv => match sv with
      | .val false [.sl false _ rows] => dstSet N o (.val false [.i .i64 rows.length])
      | .val false [.al q j v] => look q j v fun _ _ _ _ rows => dstSet N o (.val false [.i .i64 rows.length])
      | _ => .fail
    | _, _ => .fail
  | none => .fail
theorem inK_len {n : Nat} (h : n ≤ maxLen) : inK .i64 n := by
  simp only [maxLen] at h
  have h1 : IntKind.i64.min = -9223372036854775808 := by decide
  have h2 : IntKind.i64.max = 9223372036854775807 := by decide
  exact ⟨by rw [h1]; omega, by rw [h2]; omega⟩
theorem len_ok (hT : TabOk P T) {o : Oper} {t : TypeId} {x : Operand} (ho : o.op = .call { callee := .builtin .len, args := #[x], argTypes := #[t] }) : OpOk P T W N o (stepLen T N o t x) := by
  intro E Q K Qx h hw hK
  unfold stepLen at hw
  split at hw
  · rename_i ty hty
    split at hw
    · rename_i hag hcts
      obtain ⟨c, hc, hu⟩ := (hT t ty hty).one hag
      rw [hcts] at hc
      obtain rfl : CT.s = c := by simpa using hc
      obtain ⟨sx, h1, _f1, h3⟩ := rdv_sound h hw (.slot N)
      split at h3
      · obtain ⟨ea, el⟩ := h1.str
        exact sound_value h (by simp [execOp, ho, ea, resolve, invoke, builtin, Builtin.len_, run_underlying hu, goInt]) (mkInt E _ _ _ (inK_len el)) h3 hK
      · exact h3.elim
    · rename_i e hag hcts
      obtain ⟨c, hc, hu⟩ := (hT t ty hty).one hag
      rw [hcts] at hc
      obtain rfl : CT.l e = c := by simpa using hc
      obtain ⟨sx, h1, _f1, h3⟩ := rdv_sound h hw (.slot N)
      split at h3
      · obtain ⟨A, cap, s1, s2, s3⟩ := slice_len h1.cell1
        exact sound_value h (by simp [execOp, ho, s1, resolve, invoke, builtin, Builtin.len_, run_underlying hu, goInt]) (mkInt E _ _ _ (inK_len (Nat.le_trans s2 s3))) h3 hK
      · obtain ⟨ag, cs, own, e, rows, g1, g2, g3, g4, g5⟩ := look_sound h h3 h1.cell1
        obtain ⟨A, cap, s1, s2, s3⟩ := slice_len g4
        exact sound_value h (by simp [execOp, ho, s1, resolve, invoke, builtin, Builtin.len_, run_underlying hu, goInt]) (mkInt E _ _ _ (inK_len (Nat.le_trans s2 s3))) g5 hK
      · exact h3.elim
    · exact hw.elim
  · exact hw.elim
def stepConv (T : Tab) (N : Nat) (o : Oper) (src dst : TypeId) (x : Operand) : Pg :=
  match T src, T dst with
  | some ts, some td => match ts.agg, ts.cts, td.agg, td.cts with
    | false, [.i _], false, [.i k] => rdv x fun sv => match sv with
      | .val false [.i _ n] => dstSet N o (.val false [.i k (k.wrap n)])
      | _ => .fail
    | _, _, _, _ => .fail
  | _, _ => .fail
theorem conv_ok (hT : TabOk P T) {o : Oper} {src dst : TypeId} {x : Operand} (ho : o.op = .convert src dst x) : OpOk P T W N o (stepConv T N o src dst x) := by
  intro E Q K Qx h hw hK
  unfold stepConv at hw
  split at hw
  · rename_i ts td hts htd
    split at hw
    · rename_i k0 k a1 a2 a3 a4
      obtain ⟨c, hc, hu⟩ := (hT src ts hts).one a1
      rw [a2] at hc
      obtain rfl : CT.i k0 = c := by simpa using hc
      obtain ⟨c', hc', hu'⟩ := (hT dst td htd).one a3
      rw [a4] at hc'
      obtain rfl : CT.i k = c' := by simpa using hc'
      obtain ⟨sx, h1, _f1, h3⟩ := rdv_sound h hw (.slot N)
      split at h3
      · exact sound_value h (by simp [execOp, ho, h1.int.1, convert, run_underlying hu, run_underlying hu', Conv.intToInt]) (mkInt E _ _ _ (wrap_inK _ _)) h3 hK
      · exact h3.elim
    · exact hw.elim
  · exact hw.elim
end Go.Proofs.YtijnlnmoellbaaaGreat.Ab
