/- Appends, made slices, elements stored, parts. No program in sight. -/
import Derived.Test.YtijnlnmoellbaaaGreatAb12
namespace Go.Proofs.YtijnlnmoellbaaaGreat.Ab
open Go.RowKit
variable {P : Program} {T : Tab} {W : Base} {N : Nat}

/-- An append to a row of one's own: in place, or into a new block. -/
theorem run_append2 (w : World) (base : Nat) (t tx ty e : TypeId) (i : TypeInfo) (z : Value) (size : Nat) (ht : P.underlying t = some (.slice e)) (hi : P.info? e = some i) (hz : i.zero = some z)
    (hsize : i.size = size) (hzs : z.cells.size = size)
    (v : Value) (n : Nat) (xs : List Value) (hown : w.ownsRow base e size v n xs) (y : Value) (m : Nat) (news : List Value) (hs : Src P size tx y m news w)
    (h63 : n + m ≤ maxLen) (hbytes : (n + m) * i.bytes ≤ 140737488355328) (hbase : base ≤ w.heap.size) :
    ∃ v' w', (Builtin.append_ #[t, tx] ty #[v, y]).run P w = .ok v' w' ∧ w'.ownsRow base e size v' (n + m) (xs ++ news) ∧ w.grownBy w' v.ownBlock ∧
      (∀ x, v'.ownBlock = some x → (v.ownBlock = some x ∨ w.heap.size ≤ x) ∧ x < w'.heap.size) := by
  subst hsize
  have hsmall : n + m ≤ 9223372036854775807 := by simp only [maxLen] at h63; omega
  have hlen : (xs ++ news).length = (n + m) * i.size := by rw [List.length_append, hown.1, hs.newsLen, Nat.add_mul]
  have grow : ∀ (bs : Option Addr) (cap : Nat), cap < n + m → (Builtin.firstCells i.size n (.slice bs n cap)).run P w.drew = .ok xs.toArray w.drew →
      ∃ v' w', (Builtin.append_ #[t, tx] ty #[.slice bs n cap, y]).run P w = .ok v' w' ∧ w'.ownsRow base e i.size v' (n + m) (xs ++ news) ∧ w.grownBy w' (Value.ownBlock (.slice bs n cap)) ∧
      (∀ x, v'.ownBlock = some x → (Value.ownBlock (.slice bs n cap) = some x ∨ w.heap.size ≤ x) ∧ x < w'.heap.size) := by
    intro bs cap hcap hold
    have hr := run_append_grow_src (P := P) w t tx ty e i z ht hi hz bs n cap xs hold y m news hs hcap (by omega) (growslice_fits hcap hbytes)
    have hge := grownCap_ge w (n + m) cap e
    have hcm : grownCap w (n + m) cap e ≤ maxLen := grownCap_le_maxLen w (n + m) cap e h63
    refine ⟨_, _, hr, ⟨hlen, .inr ⟨w.heap.size, _, _, rfl, hbase, heap_alloc_new w.drew _, hge, hcm, ?_, ?_⟩⟩, ⟨rfl, rfl, rfl, by simp, fun k hk _ => heap_alloc_old w.drew _ k hk⟩, fun x hx => ?_⟩
    · simp only [Array.size_append, List.size_toArray, size_zeroCells, hzs, hlen, ← Nat.add_mul]
      congr 1
      omega
    · simp only [Array.toList_append]
      rw [← hlen]
      exact List.take_left
    · have : w.heap.size = x := by simpa [Value.ownBlock] using hx
      subst this
      exact ⟨.inr (Nat.le_refl _), by simp⟩
  rcases hown.2 with ⟨rfl, rfl⟩ | ⟨g, cap, cur, rfl, hbg, hg, hnc, hcm, hcs, htake⟩
  · have hx : xs = [] := List.eq_nil_of_length_eq_zero (by simpa using hown.1)
    subst hx
    by_cases hm : m = 0
    · subst hm
      have hn : news = [] := List.eq_nil_of_length_eq_zero (by simpa using hs.newsLen)
      subst hn
      refine ⟨.slice none 0 0, w, ?_, World.ownsRow_nil w base e i.size, ⟨rfl, rfl, rfl, Nat.le_refl _, fun _ _ _ => rfl⟩, fun x hx => by simp [Value.ownBlock] at hx⟩
      rcases hs.kind with ⟨e', hk⟩ | hk <;> simp [Builtin.append_, run_underlying ht, run_underlying hk, sizeOf, typeInfo, hi, hs.len, hs.cells]
    · exact grow none 0 (by omega) (run_firstCells_none w.drew i.size 0 0 0)
  · have hcells := hown.cells (g := g) rfl
    by_cases hroom : n + m ≤ cap
    · have hfit : n * i.size + news.length ≤ cur.size := by rw [hs.newsLen, hcs, ← Nat.add_mul]; exact Nat.mul_le_mul_right _ hroom
      have hst := run_storeCells_at P g (n * i.size) e news 0 cur w hg (by simpa using hfit) hs.one
      simp only [Nat.add_zero] at hst
      refine ⟨.slice (some ⟨g, 0, none⟩) (n + m) cap, w.setRow g (cur.toList.take (n * i.size) ++ news ++ cur.toList.drop (n * i.size + news.length)).toArray, ?_,
        ⟨hlen, .inr ⟨g, cap, _, rfl, hbg, setRow_heap w g cur _ e _ hg, hroom, hcm, ?_, ?_⟩⟩, ⟨rfl, rfl, rfl, by simp, fun k _ hk => setRow_other w g k _ (fun e => hk (by simp [Value.ownBlock, e]))⟩, fun x hx => ⟨.inl hx, ?_⟩⟩
      · rcases hs.kind with ⟨e', hk⟩ | hk <;> simp [Builtin.append_, run_underlying ht, run_underlying hk, sizeOf, typeInfo, hi, hs.len, hroom, hs.cells, Addr.add_lit, hst]
      · simp only [List.size_toArray, List.length_append, List.length_take, List.length_drop, Array.length_toList]
        omega
      · rw [htake, ← hlen]
        exact List.take_left
      · have : g = x := by simpa [Value.ownBlock] using hx
        subst this
        have := (Array.getElem?_eq_some_iff.1 hg).1
        simpa using this
    · exact grow (some ⟨g, 0, none⟩) cap (by omega) (run_firstCells_some w.drew i.size n ⟨g, 0, none⟩ n cap xs hown.1 (by simpa using hcells))

/-- The cells of a slice's elements, one after another, as the source of an append. -/
theorem slice_src (hT : TabOk P T) {E : Env} {q : Loc} {i : Nat} {u : Value} {own : Bool} {e : TypeId} {rows : List (List D)} (h : RelCV T W E q i u (.sl own e rows)) {te : Ty} (he : T e = some te) {tx : TypeId} (hk : P.underlying tx = some (.slice e)) :
    ∃ news, Src P te.cts.length tx u rows.length news E.w ∧ RowsR T E te.cts rows news := by
  have _ := hT
  obtain ⟨A, cap, e1, e2, e3⟩ := slice_len h
  have hlen : ∀ (k : Nat) (row : List D), rows[k]? = some row → row.length = te.cts.length := by
    intro k row hk
    have hlt := (List.getElem?_eq_some_iff.1 hk).1
    obtain ⟨_, _, _, _, hl, _⟩ := slice_row h he hlt
    rw [List.getD_eq_getElem?_getD, hk] at hl
    exact hl
  rcases Nat.eq_zero_or_pos rows.length with h0 | hpos
  · have hr : rows = [] := List.length_eq_zero_iff.1 h0
    subst hr
    refine ⟨[], ?_, hlen, fun k j ct d row hk => by simp at hk⟩
    rw [e1]
    cases A with
    | none => exact Src.ofNil E.w hk cap
    | some a => exact Src.ofSlice E.w hk a 0 cap [] (by simp) (fun j u hu => by simp at hu) (fun u hu => by simp at hu)
  · obtain ⟨b, o, cap', s1, _, _⟩ := slice_row h he hpos
    have key : ∀ (k j : Nat) ct, k < rows.length → te.cts[j]? = some ct → ∃ v, E.w.cell? ⟨b, o + (k * te.cts.length + j), none⟩ = some v ∧ RdR T E.w E.X ct v ((rows.getD k []).getD j default) := by
      intro k j ct hk hct
      obtain ⟨b', o', c', s1', _, s3'⟩ := slice_row h he hk
      rw [s1] at s1'
      simp only [Value.slice.injEq, Option.some.injEq, Addr.mk.injEq] at s1'
      obtain ⟨⟨rfl, rfl, _⟩, _, _⟩ := s1'
      obtain ⟨v, hv, hr⟩ := s3' j ct hct
      exact ⟨v, by rw [← Nat.add_assoc]; exact hv, hr⟩
    let news : List Value := (List.range (rows.length * te.cts.length)).map fun x => (E.w.cell? ⟨b, o + x, none⟩).getD undef
    have hnl : news.length = rows.length * te.cts.length := by simp [news]
    have hnews : ∀ x, x < rows.length * te.cts.length → ∃ v ct d, news[x]? = some v ∧ E.w.cell? ⟨b, o + x, none⟩ = some v ∧ RdR T E.w E.X ct v d := by
      intro x hx
      have hC : 0 < te.cts.length := by
        rcases Nat.eq_zero_or_pos te.cts.length with h0 | h0
        · rw [h0] at hx; simp at hx
        · exact h0
      have hxk : x / te.cts.length < rows.length := (Nat.div_lt_iff_lt_mul hC).2 hx
      have hxj : x % te.cts.length < te.cts.length := Nat.mod_lt _ hC
      have hxe : x / te.cts.length * te.cts.length + x % te.cts.length = x := by rw [Nat.mul_comm]; exact Nat.div_add_mod x _
      obtain ⟨v, hv, hr⟩ := key _ _ _ hxk (List.getElem?_eq_getElem hxj)
      rw [hxe] at hv
      refine ⟨v, _, _, ?_, hv, hr⟩
      simp only [news, List.getElem?_map, List.getElem?_range hx, Option.map_some, hv, Option.getD_some]
    refine ⟨news, ?_, hlen, fun k j ct d row hk hct hd => ?_⟩
    · rw [s1]
      refine Src.ofSlice E.w hk ⟨b, o, none⟩ rows.length cap' news hnl (fun x u hu => ?_) (fun u hu => ?_)
      · have hx : x < rows.length * te.cts.length := by rw [← hnl]; exact (List.getElem?_eq_some_iff.1 hu).1
        obtain ⟨v, ct, d, f1, f2, _⟩ := hnews x hx
        rw [hu] at f1
        obtain rfl := Option.some.inj f1
        rw [Addr.add_mid]; exact f2
      · obtain ⟨x, hx⟩ := List.getElem?_of_mem hu
        have hx' : x < rows.length * te.cts.length := by rw [← hnl]; exact (List.getElem?_eq_some_iff.1 hx).1
        obtain ⟨v, ct, d, f1, _, f3⟩ := hnews x hx'
        rw [hx] at f1
        obtain rfl := Option.some.inj f1
        exact f3.one
    · have hkl := (List.getElem?_eq_some_iff.1 hk).1
      have hjl := (List.getElem?_eq_some_iff.1 hct).1
      obtain ⟨v, hv, hr⟩ := key k j ct hkl hct
      have hx : k * te.cts.length + j < rows.length * te.cts.length := by
        have : (k + 1) * te.cts.length ≤ rows.length * te.cts.length := Nat.mul_le_mul_right _ hkl
        rw [Nat.succ_mul] at this
        omega
      refine ⟨v, ?_, ?_⟩
      · simp only [news, List.getElem?_map, List.getElem?_range hx, Option.map_some, hv, Option.getD_some]
      · rw [List.getD_eq_getElem?_getD (i := k), hk] at hr
        simp only [Option.getD_some, List.getD_eq_getElem?_getD, hd] at hr
        exact hr

/-- What stands behind a slice operand: rows, shared or owned; nothing is taken. -/
def rdRows (x : Operand) (e : TypeId) (k : List (List D) → Pg) : Pg :=
  rdv x fun sv => match sv with
    | .val false [.sl false e' rows] => if e' = e then k rows else .fail
    | .val false [.al q j n] => look q j n fun _ _ _ e' rows => if e' = e then k rows else .fail
    | _ => .fail
theorem rdRows_sound {E : Env} (h : Rel T W N E) {x : Operand} {e : TypeId} {k : List (List D) → Pg} {Q : St → Prop} (hw : (rdRows x e k).wp Q E.σ) :
    ∃ rows own q i, RelCV T W E q i (E.a.eval x) (.sl own e rows) ∧ (k rows).wp Q E.σ := by
  unfold rdRows at hw
  obtain ⟨sv, h1, _f1, h3⟩ := rdv_sound h hw (.slot N)
  split at h3
  · split at h3
    · rename_i he
      subst he
      exact ⟨_, false, _, _, h1.cell1, h3⟩
    · exact h3.elim
  · obtain ⟨ag, cs, own, e', rows, g1, g2, g3, g4, g5⟩ := look_sound h h3 h1.cell1
    split at g5
    · rename_i he
      subst he
      exact ⟨rows, own, _, _, g4, g5⟩
    · exact g5.elim
  · exact h3.elim

/-- x = append(x, y...), x the call's own. -/
def stepAppend (T : Tab) (N : Nat) (o : Oper) (t : TypeId) (x y : Operand) : Pg :=
  match elemT T t with
  | some (e, te) => rdRows y e fun more => rdv x fun sv => match sv with
    | .val false [.al q j n] => look q j n fun ag cs own e' rows => if own = true ∧ e' = e then
        .set 0 q (.val ag (cs.set j .dead)) (.chk (rows.length + more.length ≤ maxLen ∧ (rows.length + more.length) * te.bytes ≤ 140737488355328) (ownSet N o e (rows ++ more))) else .fail
    | _ => .fail
  | none => .fail
theorem append_ok (hT : TabOk P T) {o : Oper} {t : TypeId} {x y : Operand} (ho : o.op = .call { callee := .builtin .append, args := #[x, y], argTypes := #[t, t] }) : OpOk P T W N o (stepAppend T N o t x y) := by
  intro E Q K Qx h hw hK
  unfold stepAppend at hw
  split at hw
  · rename_i e te ht
    obtain ⟨hu, hte, hTe⟩ := elemT_spec hT ht
    obtain ⟨more, own, qy, iy, hy, hw⟩ := rdRows_sound h hw
    obtain ⟨news, hsrc, hnews⟩ := slice_src hT hy hTe hu
    obtain ⟨sv, h1, _f1, h3⟩ := rdv_sound h hw (.slot N)
    split at h3
    · rename_i q j n
      obtain ⟨ag, cs, own', e', rows, g1, g2, g3, g4, g5⟩ := look_sound h h3 h1.cell1
      split at g5
      · rename_i hoe
        obtain ⟨rfl, rfl⟩ := hoe
        obtain ⟨r1, s1, m1⟩ := h.take (j0 := 0) g1 g2
        have hgh := m1 _ g4
        obtain ⟨hb, hw'⟩ := g5
        obtain ⟨⟨ty, xs, a1, a2, a3, a4⟩, abk⟩ := hgh
        rw [hTe] at a1
        obtain rfl := Option.some.inj a1
        obtain ⟨z, hz1, hz2, inf, i1, i3⟩ := zeroCells_eq hte
        obtain ⟨inf', i1', i2, i4, _⟩ := hte.info
        rw [i1] at i1'
        obtain rfl := Option.some.inj i1'
        obtain ⟨v', w', f1, f2, f3, f4⟩ := run_append2 (P := P) E.w 0 t t o.type e' inf z te.cts.length hu i1 i3 i2 (by
          have := congrArg List.length hz2; simpa using this) (E.a.eval x) rows.length xs a2 (E.a.eval y) more.length news hsrc hb.1 (by rw [i4]; exact hb.2) (Nat.zero_le _)
        refine Same.run (E := E) (E' := E.turn q ag cs j .dead (takeBk E N q j 0)) ⟨rfl, rfl, rfl, s1⟩ (sound_grown (e := e') (rows := rows ++ more) r1 (v := v') (w' := w') ?_ ?_ ?_ (fun E2 hE2 s2 => ?_) hw' hK)
        · show (execOp E.a.eval o).run P E.w = _
          simp [execOp, ho, resolve, invoke, builtin, f1]
        · rw [← abk]; exact f3
        · rw [← abk]; exact f4
        · have hlx : xs.length = rows.length * te.cts.length := a2.1
          have hn2 : RowsR T (E.turn q ag cs j .dead (takeBk E N q j 0)) te.cts more news := hnews.same s1
          refine ⟨te, xs ++ news, hTe, by rw [List.length_append]; exact f2, fun k row hk => ?_, fun k j' ct d row hk hct hd => ?_⟩
          · rw [List.getElem?_append] at hk
            split at hk
            · exact a3 k row hk
            · exact hn2.1 _ row hk
          · have hj' := (List.getElem?_eq_some_iff.1 hct).1
            rw [List.getElem?_append] at hk
            have fin : ∀ {u}, RdR T (E.turn q ag cs j .dead (takeBk E N q j 0)).w (E.turn q ag cs j .dead (takeBk E N q j 0)).X ct u d → RdR T w' E2.X ct u d := fun hr => by
              have := hr.move s2.keep s2.less
              rwa [hE2] at this
            split at hk
            · rename_i hlt
              obtain ⟨u, hu', hr⟩ := a4 k j' ct d row hk hct hd
              refine ⟨u, ?_, fin hr⟩
              rw [List.getElem?_append_left (by
                have : (k + 1) * te.cts.length ≤ rows.length * te.cts.length := Nat.mul_le_mul_right _ hlt
                rw [Nat.succ_mul] at this
                omega)]
              exact hu'
            · rename_i hge
              obtain ⟨u, hu', hr⟩ := hn2.2 (k - rows.length) j' ct d row hk hct hd
              refine ⟨u, ?_, fin hr⟩
              have hkk : (k - rows.length) * te.cts.length + rows.length * te.cts.length = k * te.cts.length := by rw [← Nat.add_mul]; congr 1; omega
              rw [List.getElem?_append_right (by omega), hlx, show k * te.cts.length + j' - rows.length * te.cts.length = (k - rows.length) * te.cts.length + j' by omega]
              exact hu'
      · exact g5.elim
    · exact h3.elim
  · exact hw.elim

/-! Made slices -/
def zeroD : CT → D
  | .i _ => .i 0
  | .b => .b false
  | .s => .s ByteArray.empty
  | .l _ => .l []
def stepMake (T : Tab) (N : Nat) (o : Oper) (t : TypeId) (l c : Operand) : Pg :=
  match elemT T t with
  | some (e, te) => if te.cts.length = 0 then .fail else rdv l fun sl => rdv c fun sc => match sl, sc with
    | .val false [.i _ n], .val false [.i _ n'] => .chk (n' = n ∧ 0 ≤ n ∧ n ≤ 140737488355328 ∧ (te.bytes : Int) * n ≤ 281474976710656) (ownSet N o e (List.replicate n.toNat (te.cts.map zeroD)))
    | _, _ => .fail
  | none => .fail
theorem zero_rdR (w : World) (X : Nat → Prop) (ct : CT) : RdR T w X ct (zeroV ct) (zeroD ct) := by
  cases ct with
  | i k => exact .int k 0 (zero_inK k)
  | b => exact .bool false
  | s => exact .str _ (Nat.zero_le _)
  | l e => exact .nil e none 0 (Nat.zero_le _)
theorem make_ok (hT : TabOk P T) {o : Oper} {t : TypeId} {l c : Operand} (ho : o.op = .makeSlice t l c) : OpOk P T W N o (stepMake T N o t l c) := by
  intro E Q K Qx h hw hK
  unfold stepMake at hw
  split at hw
  · rename_i e te ht
    obtain ⟨hu, hte, hTe⟩ := elemT_spec hT ht
    split at hw
    · exact hw.elim
    · rename_i hne
      obtain ⟨sl, h1, _f1, h3⟩ := rdv_sound h hw (.slot N)
      obtain ⟨sc, h4, _f4, h6⟩ := rdv_sound h h3 (.slot N)
      split at h6
      · rename_i k n k' n'
        obtain ⟨⟨rfl, n0, n1, n2⟩, hw'⟩ := h6
        obtain ⟨z, hz1, hz2, inf, i1, i3⟩ := zeroCells_eq hte
        obtain ⟨inf', i1', i2, i4, _⟩ := hte.info
        rw [i1] at i1'
        obtain rfl := Option.some.inj i1'
        have hr := run_make (P := P) E.w t e inf z hu i1 i3 k k' n' n' n0 (Int.le_refl _) (by rw [i4]; exact n2) (by omega)
        rw [i2] at hr
        have hzl : z.cells.size = te.cts.length := by have := congrArg List.length hz2; simpa using this
        refine sound_grown (e := e) (rows := List.replicate n'.toNat (te.cts.map zeroD)) h (v := .slice (some ⟨E.w.heap.size, 0, none⟩) n'.toNat n'.toNat) (w' := E.w.alloc (.cells (madeCells z.cells (n'.toNat * te.cts.length)) e)) ?_ (World.grownBy_alloc _ _ _) (fun x hx => ?_) (fun E2 hE2 s2 => ?_) hw' hK
        · simp only [execOp, ho, h1.int.1, h4.int.1, Sem.run_bind, hr, Result.andThen_ok]; rfl
        · have : E.w.heap.size = x := by simpa [Value.ownBlock] using hx
          subst this
          exact ⟨.inr (Nat.le_refl _), by simp⟩
        · refine ⟨te, (madeCells z.cells (n'.toNat * te.cts.length)).toList, hTe, ⟨by simp [size_madeCells], .inr ⟨E.w.heap.size, n'.toNat, _, by simp, Nat.zero_le _, heap_alloc_new _ _, by simp, by simp only [maxLen]; omega, size_madeCells _ _, ?_⟩⟩, fun k row hk => ?_, fun k j ct d row hk hct hd => ?_⟩
          · rw [List.take_of_length_le (by simp [size_madeCells])]
          · rw [List.getElem?_replicate] at hk
            split at hk
            · obtain rfl := Option.some.inj hk; simp
            · cases hk
          · rw [List.getElem?_replicate] at hk
            split at hk
            · rename_i hlt
              obtain rfl := Option.some.inj hk
              have hjl := (List.getElem?_eq_some_iff.1 hct).1
              rw [List.getElem?_map, hct] at hd
              obtain rfl := Option.some.inj hd
              have hx : k * te.cts.length + j < n'.toNat * te.cts.length := by
                have : (k + 1) * te.cts.length ≤ n'.toNat * te.cts.length := Nat.mul_le_mul_right _ hlt
                rw [Nat.succ_mul] at this
                omega
              refine ⟨zeroV ct, ?_, zero_rdR _ _ ct⟩
              have hmod : (k * te.cts.length + j) % te.cts.length = j := by
                rw [Nat.mul_comm, Nat.mul_add_mod, Nat.mod_eq_of_lt hjl]
              have hzj : z.cells[j]? = some (zeroV ct) := by
                have : z.cells.toList[j]? = some (zeroV ct) := by rw [hz2, List.getElem?_map, hct]; rfl
                simpa using this
              simp only [madeCells, Array.toList_map, Array.toList_range, List.getElem?_map, List.getElem?_range hx, Option.map_some, hzl, hmod]
              rw [getElem!_def, hzj]
            · cases hk
      · exact h6.elim
  · exact hw.elim
end Go.Proofs.YtijnlnmoellbaaaGreat.Ab
