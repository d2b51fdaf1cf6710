/- Appends, made slices, elements stored, parts. No program in sight. Elements stored; bools and structures compared. No program in sight. Calls of functions whose contracts are known over data. No program in sight. -/
import Derived.Test.YtaecbmjmcpdgdaaGreatCK3
import Derived.Laws.StructEq
set_option linter.unusedVariables false
set_option linter.unusedSimpArgs false
namespace Go.Proofs.YtaecbmjmcpdgdaaGreat.Ab
open Go.RowKit
variable {P : Program} {T : Tab} {W : Base} {N : Nat}
theorem run_append2 (w : World) (base : Nat) (t tx ty e : TypeId) (i : TypeInfo) (z : Value) (size : Nat) (ht : P.underlying t = some (.slice e)) (hi : P.info? e = some i) (hz : i.zero = some z)
    (hsize : i.size = size) (hzs : z.cells.size = size)
    (v : Value) (n : Nat) (xs : List Value) (hown : w.ownsRow base e size v n xs) (y : Value) (m : Nat) (news : List Value) (hs : Src P size tx y m news w)
    (h63 : n + m ≤ maxLen) (hbytes : (n + m) * i.bytes ≤ 140737488355328) (hbase : base ≤ w.heap.size) :
    ∃ v' w', (Builtin.append_ #[t, tx] ty #[v, y]).run P w = .ok v' w' ∧ w'.ownsRow base e size v' (n + m) (xs ++ news) ∧ w.grownBy w' v.ownBlock ∧
      (∀ x, v'.ownBlock = some x → (v.ownBlock = some x ∨ w.heap.size ≤ x) ∧ x < w'.heap.size) := by
  subst hsize
  have hsmall : n + m ≤ 9223372036854775807 := by simp only [maxLen] at h63; omega
  have hlen : (xs ++ news).length = (n + m) * i.size := by rw [List.length_append, hown.1, hs.newsLen, Nat.add_mul]
  have grow : ∀ (bs : Option Addr) (cap : Nat), cap < n + m → (Builtin.firstCells i.size n (.slice bs n cap)).run P w.drew = .ok xs.toArray w.drew →
      ∃ v' w', (Builtin.append_ #[t, tx] ty #[.slice bs n cap, y]).run P w = .ok v' w' ∧ w'.ownsRow base e i.size v' (n + m) (xs ++ news) ∧ w.grownBy w' (Value.ownBlock (.slice bs n cap)) ∧
      (∀ x, v'.ownBlock = some x → (Value.ownBlock (.slice bs n cap) = some x ∨ w.heap.size ≤ x) ∧ x < w'.heap.size) := by
    intro bs cap hcap hold
    have hr := run_append_grow_src (P := P) w t tx ty e i z ht hi hz bs n cap xs hold y m news hs hcap (by omega) (growslice_fits hcap hbytes)
    have hge := grownCap_ge w (n + m) cap e
    have hcm : grownCap w (n + m) cap e ≤ maxLen := grownCap_le_maxLen w (n + m) cap e h63
    refine ⟨_, _, hr, ⟨hlen, .inr ⟨w.heap.size, _, _, rfl, hbase, heap_alloc_new w.drew _, hge, hcm, ?_, ?_⟩⟩, ⟨rfl, rfl, rfl, by simp, fun k hk _ => heap_alloc_old w.drew _ k hk⟩, fun x hx => ?_⟩
    · simp only [Array.size_append, List.size_toArray, size_zeroCells, hzs, hlen, ← Nat.add_mul]
      congr 1
      omega
    · simp only [Array.toList_append]
      rw [← hlen]
      exact List.take_left
    · have : w.heap.size = x := by simpa [Value.ownBlock] using hx
      subst this
      exact ⟨.inr (Nat.le_refl _), by simp⟩
  rcases hown.2 with ⟨rfl, rfl⟩ | ⟨g, cap, cur, rfl, hbg, hg, hnc, hcm, hcs, htake⟩
  · have hx : xs = [] := List.eq_nil_of_length_eq_zero (by simpa using hown.1)
    subst hx
    by_cases hm : m = 0
    · subst hm
      have hn : news = [] := List.eq_nil_of_length_eq_zero (by simpa using hs.newsLen)
      subst hn
      refine ⟨.slice none 0 0, w, ?_, World.ownsRow_nil w base e i.size, ⟨rfl, rfl, rfl, Nat.le_refl _, fun _ _ _ => rfl⟩, fun x hx => by simp [Value.ownBlock] at hx⟩
      rcases hs.kind with ⟨e', hk⟩ | hk <;> simp [Builtin.append_, run_underlying ht, run_underlying hk, sizeOf, typeInfo, hi, hs.len, hs.cells]
    · exact grow none 0 (by omega) (run_firstCells_none w.drew i.size 0 0 0)
  · have hcells := hown.cells (g := g) rfl
    by_cases hroom : n + m ≤ cap
    · have hfit : n * i.size + news.length ≤ cur.size := by rw [hs.newsLen, hcs, ← Nat.add_mul]; exact Nat.mul_le_mul_right _ hroom
      have hst := run_storeCells_at P g (n * i.size) e news 0 cur w hg (by simpa using hfit) hs.one
      simp only [Nat.add_zero] at hst
      refine ⟨.slice (some ⟨g, 0, none⟩) (n + m) cap, w.setRow g (cur.toList.take (n * i.size) ++ news ++ cur.toList.drop (n * i.size + news.length)).toArray, ?_,
        ⟨hlen, .inr ⟨g, cap, _, rfl, hbg, setRow_heap w g cur _ e _ hg, hroom, hcm, ?_, ?_⟩⟩, ⟨rfl, rfl, rfl, by simp, fun k _ hk => setRow_other w g k _ (fun e => hk (by simp [Value.ownBlock, e]))⟩, fun x hx => ⟨.inl hx, ?_⟩⟩
      · rcases hs.kind with ⟨e', hk⟩ | hk <;> simp [Builtin.append_, run_underlying ht, run_underlying hk, sizeOf, typeInfo, hi, hs.len, hroom, hs.cells, Addr.add_lit, hst]
      · simp only [List.size_toArray, List.length_append, List.length_take, List.length_drop, Array.length_toList]
        omega
      · rw [htake, ← hlen]
        exact List.take_left
      · have : g = x := by simpa [Value.ownBlock] using hx
        subst this
        have := (Array.getElem?_eq_some_iff.1 hg).1
        simpa using this
    · exact grow (some ⟨g, 0, none⟩) cap (by omega) (run_firstCells_some w.drew i.size n ⟨g, 0, none⟩ n cap xs hown.1 (by simpa using hcells))
theorem slice_src (hT : TabOk P T) {E : Env} {q : Loc} {i : Nat} {u : Value} {own : Bool} {e : TypeId} {rows : List (List D)} (h : RelCV T W E q i u (.sl own e rows)) (hdp : own = true → dpT T e = false) {te : Ty} (he : T e = some te) {tx : TypeId} (hk : P.underlying tx = some (.slice e)) :
    ∃ news, Src P te.cts.length tx u rows.length news E.w ∧ RowsR T E te.cts rows news := by
  have _ := hT
  obtain ⟨A, cap, e1, e2, e3⟩ := slice_len h
  have hlen : ∀ (k : Nat) (row : List D), rows[k]? = some row → row.length = te.cts.length := by
    intro k row hk
    have hlt := (List.getElem?_eq_some_iff.1 hk).1
    obtain ⟨_, _, _, _, hl, _⟩ := slice_row h he hlt
    rw [List.getD_eq_getElem?_getD, hk] at hl
    exact hl
  rcases Nat.eq_zero_or_pos rows.length with h0 | hpos
  · have hr : rows = [] := List.length_eq_zero_iff.1 h0
    subst hr
    refine ⟨[], ?_, hlen, fun k j ct d row hk => by simp at hk⟩
    rw [e1]
    cases A with
    | none => exact Src.ofNil E.w hk cap
    | some a => exact Src.ofSlice E.w hk a 0 cap [] (by simp) (fun j u hu => by simp at hu) (fun u hu => by simp at hu)
  · obtain ⟨b, o, cap', s1, _, _⟩ := slice_row h he hpos
    have key : ∀ (k j : Nat) ct, k < rows.length → te.cts[j]? = some ct → ∃ v, E.w.cell? ⟨b, o + (k * te.cts.length + j), none⟩ = some v ∧ RdR T E.w E.X ct v ((rows.getD k []).getD j default) := by
      intro k j ct hk hct
      obtain ⟨b', o', c', s1', _, s3'⟩ := slice_row h he hk
      rw [s1] at s1'
      simp only [Value.slice.injEq, Option.some.injEq, Addr.mk.injEq] at s1'
      obtain ⟨⟨rfl, rfl, _⟩, _, _⟩ := s1'
      obtain ⟨v, hv, hr⟩ := s3' j ct hct
      exact ⟨v, by rw [← Nat.add_assoc]; exact hv, hr fun h1 h2 => by rw [hdp h1] at h2; cases h2⟩
    let news : List Value := (List.range (rows.length * te.cts.length)).map fun x => (E.w.cell? ⟨b, o + x, none⟩).getD undef
    have hnl : news.length = rows.length * te.cts.length := by simp [news]
    have hnews : ∀ x, x < rows.length * te.cts.length → ∃ v ct d, news[x]? = some v ∧ E.w.cell? ⟨b, o + x, none⟩ = some v ∧ RdR T E.w E.X ct v d := by
      intro x hx
      have hC : 0 < te.cts.length := by
        rcases Nat.eq_zero_or_pos te.cts.length with h0 | h0
        · rw [h0] at hx; simp at hx
        · exact h0
      have hxk : x / te.cts.length < rows.length := (Nat.div_lt_iff_lt_mul hC).2 hx
      have hxj : x % te.cts.length < te.cts.length := Nat.mod_lt _ hC
      have hxe : x / te.cts.length * te.cts.length + x % te.cts.length = x := by rw [Nat.mul_comm]; exact Nat.div_add_mod x _
      obtain ⟨v, hv, hr⟩ := key _ _ _ hxk (List.getElem?_eq_getElem hxj)
      rw [hxe] at hv
      refine ⟨v, _, _, ?_, hv, hr⟩
      simp only [news, List.getElem?_map, List.getElem?_range hx, Option.map_some, hv, Option.getD_some]
    refine ⟨news, ?_, hlen, fun k j ct d row hk hct hd => ?_⟩
    · rw [s1]
      refine Src.ofSlice E.w hk ⟨b, o, none⟩ rows.length cap' news hnl (fun x u hu => ?_) (fun u hu => ?_)
      · have hx : x < rows.length * te.cts.length := by rw [← hnl]; exact (List.getElem?_eq_some_iff.1 hu).1
        obtain ⟨v, ct, d, f1, f2, _⟩ := hnews x hx
        rw [hu] at f1
        obtain rfl := Option.some.inj f1
        rw [Addr.add_mid]; exact f2
      · obtain ⟨x, hx⟩ := List.getElem?_of_mem hu
        have hx' : x < rows.length * te.cts.length := by rw [← hnl]; exact (List.getElem?_eq_some_iff.1 hx).1
        obtain ⟨v, ct, d, f1, _, f3⟩ := hnews x hx'
        rw [hx] at f1
        obtain rfl := Option.some.inj f1
        exact f3.one
    · have hkl := (List.getElem?_eq_some_iff.1 hk).1
      have hjl := (List.getElem?_eq_some_iff.1 hct).1
      obtain ⟨v, hv, hr⟩ := key k j ct hkl hct
      have hx : k * te.cts.length + j < rows.length * te.cts.length := by
        have : (k + 1) * te.cts.length ≤ rows.length * te.cts.length := Nat.mul_le_mul_right _ hkl
        rw [Nat.succ_mul] at this
        omega
      refine ⟨v, ?_, ?_⟩
      · simp only [news, List.getElem?_map, List.getElem?_range hx, Option.map_some, hv, Option.getD_some]
      · rw [List.getD_eq_getElem?_getD (i := k), hk] at hr
        simp only [Option.getD_some, List.getD_eq_getElem?_getD, hd] at hr
        exact hr
def rdRows (x : Operand) (e : TypeId) (k : List (List D) → Pg) : Pg :=
  rdv x fun sv => match sv with
    | .val false [.sl false e' rows] => if e' = e then k rows else .fail
    | .val false [.al q j n] => look q j n fun _ _ _ e' rows => if e' = e then k rows else .fail
    | _ => .fail
theorem rdRows_sound {E : Env} (h : Rel T W N E) {x : Operand} {e : TypeId} {k : List (List D) → Pg} {Q : St → Prop} (hw : (rdRows x e k).wp Q E.σ) :
    ∃ rows own q i, RelCV T W E q i (E.a.eval x) (.sl own e rows) ∧ (k rows).wp Q E.σ := by
  unfold rdRows at hw
  obtain ⟨sv, h1, _f1, h3⟩ := rdv_sound h hw (.slot N)
  split at h3
  · split at h3
    · rename_i he
      subst he
      exact ⟨_, false, _, _, h1.cell1, h3⟩
    · exact h3.elim
  · obtain ⟨ag, cs, own, e', rows, g1, g2, g3, g4, g5⟩ := look_sound h h3 h1.cell1
    split at g5
    · rename_i he
      subst he
      exact ⟨rows, own, _, _, g4, g5⟩
    · exact g5.elim
  · exact h3.elim
def stepAppend1 (T : Tab) (N : Nat) (o : Oper) (t : TypeId) (x y : Operand) : Pg :=
  match elemT T t with
  | some (e, te) => match dpT T e with
   | true => .fail
   | false => rdRows y e fun more => rdv x fun sv => match sv with
    | .val false [.al q j n] => look q j n fun ag cs own e' rows => if own = true ∧ e' = e then
        .set 0 q (.val ag (cs.set j .dead)) (.chk (rows.length + more.length ≤ maxLen ∧ (rows.length + more.length) * te.bytes ≤ 140737488355328) (ownSet N o e (rows ++ more))) else .fail
    | _ => .fail
  | none => .fail
theorem append1_ok (hT : TabOk P T) {o : Oper} {t : TypeId} {x y : Operand} (ho : o.op = .call { callee := .builtin .append, args := #[x, y], argTypes := #[t, t] }) : OpOk P T W N o (stepAppend1 T N o t x y) := by
  intro E Q K Qx h hw hK
  unfold stepAppend1 at hw
  split at hw
  · rename_i e te ht
    obtain ⟨hu, hte, hTe⟩ := elemT_spec hT ht
    split at hw
    · exact hw.elim
    rename_i hdp
    obtain ⟨more, own, qy, iy, hy, hw⟩ := rdRows_sound h hw
    obtain ⟨news, hsrc, hnews⟩ := slice_src hT hy (fun _ => hdp) hTe hu
    obtain ⟨sv, h1, _f1, h3⟩ := rdv_sound h hw (.slot N)
    split at h3
    · rename_i q j n
      obtain ⟨ag, cs, own', e', rows, g1, g2, g3, g4, g5⟩ := look_sound h h3 h1.cell1
      split at g5
      · rename_i hoe
        obtain ⟨rfl, rfl⟩ := hoe
        obtain ⟨r1, s1, m1⟩ := h.take (j0 := 0) g1 g2
        have hgh := m1 _ g4
        obtain ⟨hb, hw'⟩ := g5
        obtain ⟨⟨ty, xs, a1, a2, a3, a4⟩, abk⟩ := OwnF.own hgh hdp
        rw [hTe] at a1
        obtain rfl := Option.some.inj a1
        obtain ⟨z, hz1, hz2, inf, i1, i3⟩ := zeroCells_eq hte
        obtain ⟨inf', i1', i2, i4, _⟩ := hte.info
        rw [i1] at i1'
        obtain rfl := Option.some.inj i1'
        obtain ⟨v', w', f1, f2, f3, f4⟩ := run_append2 (P := P) E.w 0 t t o.type e' inf z te.cts.length hu i1 i3 i2 (by
          have := congrArg List.length hz2; simpa using this) (E.a.eval x) rows.length xs a2 (E.a.eval y) more.length news hsrc hb.1 (by rw [i4]; exact hb.2) (Nat.zero_le _)
        refine Same.run (E := E) (E' := E.turn q ag cs j .dead (takeBk E N q j 0)) ⟨rfl, rfl, rfl, s1⟩ (sound_grown1 (e := e') (rows := rows ++ more) r1 hdp (v := v') (w' := w') ?_ f3 (fun x hx => ⟨0, (abk x).2 hx⟩) (fun x hx => ⟨(f4 x hx).1.imp (fun h => ⟨0, (abk x).2 h⟩) id, (f4 x hx).2⟩) (fun E2 hE2 s2 => ?_) hw' hK)
        · show (execOp E.a.eval o).run P E.w = _
          simp [execOp, ho, resolve, invoke, builtin, f1]
        · have hlx : xs.length = rows.length * te.cts.length := a2.1
          have hn2 : RowsR T (E.turn q ag cs j .dead (takeBk E N q j 0)) te.cts more news := hnews.same s1
          refine ⟨te, xs ++ news, hTe, by rw [List.length_append]; exact f2, fun k row hk => ?_, fun k j' ct d row hk hct hd => ?_⟩
          · rw [List.getElem?_append] at hk
            split at hk
            · exact a3 k row hk
            · exact hn2.1 _ row hk
          · have hj' := (List.getElem?_eq_some_iff.1 hct).1
            rw [List.getElem?_append] at hk
            have fin : ∀ {u}, RdR T (E.turn q ag cs j .dead (takeBk E N q j 0)).w (E.turn q ag cs j .dead (takeBk E N q j 0)).X ct u d → RdR T w' E2.X ct u d := fun hr => by
              have := hr.move s2.keep s2.less
              rwa [hE2] at this
            split at hk
            · rename_i hlt
              obtain ⟨u, hu', hr⟩ := a4 k j' ct d row hk hct hd
              refine ⟨u, ?_, fin hr⟩
              rw [List.getElem?_append_left (by
                have : (k + 1) * te.cts.length ≤ rows.length * te.cts.length := Nat.mul_le_mul_right _ hlt
                rw [Nat.succ_mul] at this
                omega)]
              exact hu'
            · rename_i hge
              obtain ⟨u, hu', hr⟩ := hn2.2 (k - rows.length) j' ct d row hk hct hd
              refine ⟨u, ?_, fin hr⟩
              have hkk : (k - rows.length) * te.cts.length + rows.length * te.cts.length = k * te.cts.length := by rw [← Nat.add_mul]; congr 1; omega
              rw [List.getElem?_append_right (by omega), hlx, show k * te.cts.length + j' - rows.length * te.cts.length = (k - rows.length) * te.cts.length + j' by omega]
              exact hu'
      · exact g5.elim
    · exact h3.elim
  · exact hw.elim
theorem DeepV.one {w : World} {F : Nat → Prop} {ct : CT} {v : Value} {d : D} (h : DeepV T w F ct v d) : v.oneCell' = true := by
  cases h with
  | flat F ct v d h1 h2 h3 => exact h3.one
  | sl F e ty v rows xs G h1 h2 =>
    rcases h2.2 with ⟨rfl, _⟩ | ⟨g, cap, cur, rfl, _⟩ <;> rfl
theorem ownsRow_src {w : World} {e : TypeId} {n m : Nat} {v : Value} {xs : List Value} {tx : TypeId} (h : w.ownsRow 0 e n v m xs) (hk : P.underlying tx = some (.slice e)) (h1 : ∀ u ∈ xs, u.oneCell' = true) : Src P n tx v m xs w := by
  rcases h.2 with ⟨rfl, rfl⟩ | ⟨g, cap, cur, rfl, hrest⟩
  · have : xs = [] := List.eq_nil_of_length_eq_zero (by simpa using h.1)
    subst this
    exact Src.ofNil w hk 0
  · exact Src.ofSlice w hk ⟨g, 0, none⟩ m cap xs h.1 (fun j u hu => h.cells (g := g) rfl j u hu) h1
def stepAppendD (T : Tab) (N : Nat) (o : Oper) (t : TypeId) (x y : Operand) : Pg :=
  match elemT T t with
  | some (e, te) => match dpT T e with
   | false => .fail
   | true => rdv x fun sv => match sv with
    | .val false [.al q j n] => look q j n fun ag cs own e' rows => if own = true ∧ e' = e then
        .set 0 q (.val ag (cs.set j .dead)) (rdv y fun sy => match sy with
          | .val false [.al q2 j2 n2] => look q2 j2 n2 fun ag2 cs2 own2 e2 more => if own2 = true ∧ e2 = e then
              .set 0 q2 (.val ag2 (cs2.set j2 .dead)) (.chk (rows.length + more.length ≤ maxLen ∧ (rows.length + more.length) * te.bytes ≤ 140737488355328) (ownSet N o e (rows ++ more))) else .fail
          | _ => .fail) else .fail
    | _ => .fail
  | none => .fail
theorem appendD_ok (hT : TabOk P T) {o : Oper} {t : TypeId} {x y : Operand} (ho : o.op = .call { callee := .builtin .append, args := #[x, y], argTypes := #[t, t] }) : OpOk P T W N o (stepAppendD T N o t x y) := by
  intro E Q K Qx h hw hK
  unfold stepAppendD at hw
  split at hw
  case h_2 => exact hw.elim
  rename_i e te ht
  obtain ⟨hu, hte, hTe⟩ := elemT_spec hT ht
  split at hw
  · exact hw.elim
  rename_i hdp
  obtain ⟨sv, h1, _f1, h3⟩ := rdv_sound h hw (.slot N)
  split at h3
  case h_2 => exact h3.elim
  rename_i q j n
  obtain ⟨ag, cs, own', e', rows, g1, g2, g3, g4, g5⟩ := look_sound h h3 h1.cell1
  split at g5
  case isFalse => exact g5.elim
  rename_i hoe
  obtain ⟨rfl, rfl⟩ := hoe
  obtain ⟨r1, s1, m1⟩ := h.take (j0 := 0) g1 g2
  have gx := m1 _ g4
  have g5' : (rdv y fun sy => match sy with
          | .val false [.al q2 j2 n2] => look q2 j2 n2 fun ag2 cs2 own2 e2 more => if own2 = true ∧ e2 = e' then
              .set 0 q2 (.val ag2 (cs2.set j2 .dead)) (.chk (rows.length + more.length ≤ maxLen ∧ (rows.length + more.length) * te.bytes ≤ 140737488355328) (ownSet N o e' (rows ++ more))) else .fail
          | _ => .fail : Pg).wp Q (E.turn q ag cs j .dead (takeBk E N q j 0)).σ := g5
  generalize hE1 : E.turn q ag cs j .dead (takeBk E N q j 0) = E1 at *
  have ha1 : E1.a = E.a := by rw [← hE1]; rfl
  have hw1 : E1.w = E.w := by rw [← hE1]; rfl
  obtain ⟨sy, k1, _f2, k3⟩ := rdv_sound r1 g5' (.slot N)
  split at k3
  case h_2 => exact k3.elim
  rename_i q2 j2 n2
  obtain ⟨ag2, cs2, own2, e2, more, l1, l2, l3, l4, l5⟩ := look_sound r1 k3 k1.cell1
  split at l5
  case isFalse => exact l5.elim
  rename_i hoe2
  obtain ⟨rfl, rfl⟩ := hoe2
  obtain ⟨r2, s2, m2⟩ := r1.take (j0 := 1) l1 l2
  have gy := m2 _ l4
  have l5' : (Pg.chk (rows.length + more.length ≤ maxLen ∧ (rows.length + more.length) * te.bytes ≤ 140737488355328) (ownSet N o e2 (rows ++ more))).wp Q (E1.turn q2 ag2 cs2 j2 .dead (takeBk E1 N q2 j2 1)).σ := l5
  have hbx : takeBk E1 N q2 j2 1 (.slot N) 0 = E1.bk (.slot N) 0 := by
    unfold takeBk
    split
    · rename_i g
      rw [← g.1] at l1
      exact (r1.ghost l1 l2).elim
    · rw [if_neg (fun g => by cases g.2)]
  have gx2 : RelCV T W (E1.turn q2 ag2 cs2 j2 .dead (takeBk E1 N q2 j2 1)) (.slot N) 0 (E.a.eval x) (.sl true e2 rows) := gx.step s2 fun _ _ _ => ⟨hbx, fun _ _ => rfl⟩
  generalize hE2 : E1.turn q2 ag2 cs2 j2 .dead (takeBk E1 N q2 j2 1) = E2 at *
  have ha2 : E2.a = E.a := by rw [← ha1, ← hE2]; rfl
  have hw2 : E2.w = E.w := by rw [← hw1, ← hE2]; rfl
  rw [ha1] at gy
  obtain ⟨hb, hw'⟩ := l5'
  have ox : DeepV T E2.w (E2.bk (.slot N) 0) (.l e2) (E.a.eval x) (.l rows) := OwnF.deep gx2 hdp
  have oy : DeepV T E2.w (E2.bk (.slot N) 1) (.l e2) (E.a.eval y) (.l more) := OwnF.deep gy hdp
  obtain ⟨ty, xs, Gx, a1, a2, a3, a4, a5, a6, a7⟩ := ox.inv
  rw [hTe] at a1
  obtain rfl := Option.some.inj a1
  obtain ⟨ty, ys, Gy, b1, b2, b3, b4, b5, b6, b7⟩ := oy.inv
  rw [hTe] at b1
  obtain rfl := Option.some.inj b1
  have one : ∀ u ∈ ys, u.oneCell' = true := by
    intro u hu'
    obtain ⟨i, hi⟩ := List.getElem?_of_mem hu'
    have hlt : i < more.length * te.cts.length := by rw [← b2.1]; exact (List.getElem?_eq_some_iff.1 hi).1
    have hn : 0 < te.cts.length := Nat.pos_of_ne_zero fun e => by rw [e] at hlt; omega
    have hk : i / te.cts.length < more.length := Nat.div_lt_of_lt_mul (by rwa [Nat.mul_comm])
    have hj : i % te.cts.length < te.cts.length := Nat.mod_lt _ hn
    have hr := b3 _ _ (List.getElem?_eq_getElem hk)
    have he : i / te.cts.length * te.cts.length + i % te.cts.length = i := by rw [Nat.mul_comm]; exact Nat.div_add_mod ..
    have := (b7 (i / te.cts.length) (i % te.cts.length) _ _ _ (List.getElem?_eq_getElem hk) (List.getElem?_eq_getElem hj) (List.getElem?_eq_getElem (by rw [hr]; exact hj))).one
    rw [he, List.getD_eq_getElem?_getD, hi] at this
    exact this
  obtain ⟨z, hz1, hz2, inf, i1, i3⟩ := zeroCells_eq hte
  obtain ⟨inf', i1', i2, i4, _⟩ := hte.info
  rw [i1] at i1'
  obtain rfl := Option.some.inj i1'
  obtain ⟨v', w', f1, f2, f3, f4⟩ := run_append2 (P := P) E2.w 0 t t o.type e2 inf z te.cts.length hu i1 i3 i2 (by
    have := congrArg List.length hz2; simpa using this) (E.a.eval x) rows.length xs a2 (E.a.eval y) more.length ys (ownsRow_src b2 hu one) hb.1 (by rw [i4]; exact hb.2) (Nat.zero_le _)
  have hX0 : ∀ b, (E.a.eval x).ownBlock = some b → E2.bk (.slot N) 0 b := fun b hb => (a4 b).2 (.inl hb)
  have hGx : ∀ i b, Gx i b → E2.bk (.slot N) 0 b := fun i b hb => (a4 b).2 (.inr ⟨i, hb⟩)
  have hGy : ∀ i b, Gy i b → E2.bk (.slot N) 1 b := fun i b hb => (b4 b).2 (.inr ⟨i, hb⟩)
  have hxy : ∀ b, E2.bk (.slot N) 0 b → E2.bk (.slot N) 1 b → False := fun b h0 h1 => by
    have := (r2.owinj _ _ _ _ _ h0 h1).2
    cases this
  have hlx : xs.length = rows.length * te.cts.length := a2.1
  have same : Same E E2 := ⟨ha2, hw2, by rw [← hE2, ← hE1]; rfl, by
    have := s1.trans s2
    exact this⟩
  refine same.run (sound_grown (e := e2) (rows := rows ++ more) (row := (E.a.eval x).ownBlock) (F := fun b => v'.ownBlock = some b ∨ (∃ i, Gx i b) ∨ ∃ i, Gy i b) r2 (v := v') (w' := w') ?_ f3 (fun b hb => ⟨0, hX0 b hb⟩) (fun b hb => ?_) (fun E3 hE3 s3 => ?_) hw' hK)
  · rw [ha2]
    simp [execOp, ho, resolve, invoke, builtin, f1]
  · have hsz := f3.size
    rcases hb with hb | ⟨i, hb⟩ | ⟨i, hb⟩
    · exact ⟨(f4 b hb).1.imp (fun h => ⟨0, hX0 b h⟩) id, (f4 b hb).2⟩
    · have := (r2.owlo _ _ _ (hGx i b hb)).2
      exact ⟨.inl ⟨0, hGx i b hb⟩, by omega⟩
    · have := (r2.owlo _ _ _ (hGy i b hb)).2
      exact ⟨.inl ⟨1, hGy i b hb⟩, by omega⟩
  · refine OwnF.of_deep hdp ?_
    have keepB : ∀ b, b < E2.w.heap.size → (E.a.eval x).ownBlock ≠ some b → w'.heap[b]? = E2.w.heap[b]? := fun b hb hn => f3.block b hb (fun e => hn e.symm)
    have hl : (rows ++ more).length = rows.length + more.length := List.length_append
    refine .sl _ e2 te v' (rows ++ more) (xs ++ ys) (fun i b => (i < xs.length ∧ Gx i b) ∨ (xs.length ≤ i ∧ Gy (i - xs.length) b)) hTe (by rw [hl]; exact f2) (fun k row hk => ?_) (fun b => ?_) (fun i b hb => ?_) (fun i i' b hb hb' => ?_) (fun k j' ct d row hk hct hd => ?_)
    · rw [List.getElem?_append] at hk
      split at hk
      · exact a3 k row hk
      · exact b3 _ row hk
    · refine or_congr Iff.rfl ⟨fun hb => ?_, fun hb => ?_⟩
      · rcases hb with ⟨i, hb⟩ | ⟨i, hb⟩
        · exact ⟨i, .inl ⟨by rw [hlx]; exact (a5 i b hb).2, hb⟩⟩
        · exact ⟨i + xs.length, .inr ⟨by omega, by rw [Nat.add_sub_cancel]; exact hb⟩⟩
      · rcases hb with ⟨i, ⟨_, hb⟩ | ⟨_, hb⟩⟩
        · exact .inl ⟨_, hb⟩
        · exact .inr ⟨_, hb⟩
    · have hold : b < E2.w.heap.size := by
        rcases hb with ⟨_, hb⟩ | ⟨_, hb⟩
        · exact (r2.owlo _ _ _ (hGx _ b hb)).2
        · exact (r2.owlo _ _ _ (hGy _ b hb)).2
      refine ⟨fun he => ?_, ?_⟩
      · rcases (f4 b he).1 with h0 | h0
        · rcases hb with ⟨_, hb⟩ | ⟨_, hb⟩
          · exact (a5 i b hb).1 h0
          · exact hxy b (hX0 b h0) (hGy _ b hb)
        · omega
      · rw [hl, Nat.add_mul]
        rcases hb with ⟨hi, _⟩ | ⟨hi, hb⟩
        · omega
        · have := (b5 _ b hb).2
          omega
    · rcases hb with ⟨hi, hb⟩ | ⟨hi, hb⟩
      · rcases hb' with ⟨hi', hb'⟩ | ⟨hi', hb'⟩
        · exact a6 _ _ _ hb hb'
        · exact (hxy b (hGx _ b hb) (hGy _ b hb')).elim
      · rcases hb' with ⟨hi', hb'⟩ | ⟨hi', hb'⟩
        · exact (hxy b (hGx _ b hb') (hGy _ b hb)).elim
        · have := b6 _ _ _ hb hb'
          omega
    · have hj' := (List.getElem?_eq_some_iff.1 hct).1
      rw [List.getElem?_append] at hk
      split at hk
      · rename_i hlt
        have hin : k * te.cts.length + j' < xs.length := by
          have : (k + 1) * te.cts.length ≤ rows.length * te.cts.length := Nat.mul_le_mul_right _ hlt
          rw [Nat.succ_mul] at this
          omega
        have hF : (fun b => (k * te.cts.length + j' < xs.length ∧ Gx (k * te.cts.length + j') b) ∨ (xs.length ≤ k * te.cts.length + j' ∧ Gy (k * te.cts.length + j' - xs.length) b)) = Gx (k * te.cts.length + j') := by
          funext b
          exact propext ⟨fun h => h.elim (·.2) fun h => absurd h.1 (by omega), fun h => .inl ⟨hin, h⟩⟩
        have hx : (xs ++ ys).getD (k * te.cts.length + j') undef = xs.getD (k * te.cts.length + j') undef := by
          rw [List.getD_eq_getElem?_getD, List.getElem?_append_left hin, ← List.getD_eq_getElem?_getD]
        rw [hF, hx]
        exact (a7 k j' ct d row hk hct hd).move fun b hb => keepB b (r2.owlo _ _ _ (hGx _ b hb)).2 (a5 _ b hb).1
      · rename_i hge
        have hkk : (k - rows.length) * te.cts.length + rows.length * te.cts.length = k * te.cts.length := by rw [← Nat.add_mul]; congr 1; omega
        have hout : xs.length ≤ k * te.cts.length + j' := by omega
        have hsub : k * te.cts.length + j' - xs.length = (k - rows.length) * te.cts.length + j' := by omega
        have hF : (fun b => (k * te.cts.length + j' < xs.length ∧ Gx (k * te.cts.length + j') b) ∨ (xs.length ≤ k * te.cts.length + j' ∧ Gy (k * te.cts.length + j' - xs.length) b)) = Gy ((k - rows.length) * te.cts.length + j') := by
          funext b
          rw [hsub]
          exact propext ⟨fun h => h.elim (fun h => absurd h.1 (by omega)) (·.2), fun h => .inr ⟨hout, h⟩⟩
        have hx : (xs ++ ys).getD (k * te.cts.length + j') undef = ys.getD ((k - rows.length) * te.cts.length + j') undef := by
          rw [List.getD_eq_getElem?_getD, List.getElem?_append_right hout, hsub, ← List.getD_eq_getElem?_getD]
        rw [hF, hx]
        exact (b7 (k - rows.length) j' ct d row hk hct hd).move fun b hb => keepB b (r2.owlo _ _ _ (hGy _ b hb)).2 fun h0 => hxy b (hX0 b h0) (hGy _ b hb)
def stepAppend (T : Tab) (N : Nat) (o : Oper) (t : TypeId) (x y : Operand) : Pg :=
  match T.dp with
  | false => stepAppend1 T N o t x y
  | true => match elemT T t with
    | some (e, _) => match dpT T e with
      | false => stepAppend1 T N o t x y
      | true => stepAppendD T N o t x y
    | none => .fail
theorem append_ok (hT : TabOk P T) {o : Oper} {t : TypeId} {x y : Operand} (ho : o.op = .call { callee := .builtin .append, args := #[x, y], argTypes := #[t, t] }) : OpOk P T W N o (stepAppend T N o t x y) := by
  unfold stepAppend
  split
  · exact append1_ok hT ho
  · split
    · split
      · exact append1_ok hT ho
      · exact appendD_ok hT ho
    · intro E Q K Qx h hw hK
      exact hw.elim
def zeroD : CT → D
  | .i _ => .i 0
  | .b => .b false
  | .s => .s ByteArray.empty
  | .l _ => .l []
def stepMake (T : Tab) (N : Nat) (o : Oper) (t : TypeId) (l c : Operand) : Pg :=
  match elemT T t with
  | some (e, te) => if te.cts.length = 0 then .fail else rdv l fun sl => rdv c fun sc => match sl, sc with
    | .val false [.i _ n], .val false [.i _ n'] => .chk (n' = n ∧ 0 ≤ n ∧ n ≤ 140737488355328 ∧ (te.bytes : Int) * n ≤ 281474976710656) (ownSet N o e (List.replicate n.toNat (te.cts.map zeroD)))
    | _, _ => .fail
  | none => .fail
theorem zero_rdR (w : World) (X : Nat → Prop) (ct : CT) : RdR T w X ct (zeroV ct) (zeroD ct) := by
  cases ct with
  | i k => exact .int k 0 (zero_inK k)
  | b => exact .bool false
  | s => exact .str _ (Nat.zero_le _)
  | l e => exact .nil e none 0 (Nat.zero_le _)
theorem own_zero {w : World} {X F : Nat → Prop} {e : TypeId} {te : Ty} {v : Value} {rows : List (List D)} (hte : TyOk P T e te) (hTe : T e = some te) (h : ∀ _ : Unit, ∃ xs : List Value, w.ownsRow 0 e te.cts.length v rows.length xs ∧ (∀ (k : Nat) (row : List D), rows[k]? = some row → row.length = te.cts.length) ∧
    ∀ (k j : Nat) ct d (row : List D), rows[k]? = some row → te.cts[j]? = some ct → row[j]? = some d → xs[k * te.cts.length + j]? = some (zeroV ct) ∧ d = zeroD ct) (hF : F = fun x => v.ownBlock = some x := by rfl) : OwnF T w X F e v rows := by
  subst hF
  obtain ⟨xs, h1, h2, h3⟩ := h ()
  cases hdp : dpT T e with
  | false => exact .of_own hdp ⟨te, xs, hTe, h1, h2, fun k j ct d row a b c => by
      obtain ⟨q1, rfl⟩ := h3 k j ct d row a b c
      exact ⟨_, q1, zero_rdR _ _ ct⟩⟩ fun _ => Iff.rfl
  | true =>
    refine .of_deep hdp (.sl _ e te v rows xs (fun _ _ => False) hTe h1 h2 (fun b => ⟨.inl, fun h => h.elim id fun ⟨_, h⟩ => h.elim⟩) (fun _ _ h => h.elim) (fun _ _ _ h => h.elim) fun k j ct d row a b c => ?_)
    obtain ⟨q1, rfl⟩ := h3 k j ct d row a b c
    rw [List.getD_eq_getElem?_getD, q1]
    cases ct with
    | i k => exact .flat _ _ _ _ (fun _ h => h) (fun e h => by cases h) (zero_rdR _ _ _)
    | b => exact .flat _ _ _ _ (fun _ h => h) (fun e h => by cases h) (zero_rdR _ _ _)
    | s => exact .flat _ _ _ _ (fun _ h => h) (fun e h => by cases h) (zero_rdR _ _ _)
    | l e' =>
      have := hte.elems e' (List.mem_of_getElem? b)
      cases hte' : T e' with
      | none => rw [hte'] at this; cases this
      | some te' => exact .sl _ e' te' _ [] [] (fun _ _ => False) hte' (World.ownsRow_nil _ _ _ _) (fun k row h => by simp at h) (fun b => ⟨fun h => h.elim, fun h => by rcases h with h | ⟨_, h⟩; cases h; exact h⟩) (fun _ _ h => h.elim) (fun _ _ _ h => h.elim) (fun k j ct d row h => by simp at h)
theorem make_ok (hT : TabOk P T) {o : Oper} {t : TypeId} {l c : Operand} (ho : o.op = .makeSlice t l c) : OpOk P T W N o (stepMake T N o t l c) := by
  intro E Q K Qx h hw hK
  unfold stepMake at hw
  split at hw
  · rename_i e te ht
    obtain ⟨hu, hte, hTe⟩ := elemT_spec hT ht
    split at hw
    · exact hw.elim
    · rename_i hne
      obtain ⟨sl, h1, _f1, h3⟩ := rdv_sound h hw (.slot N)
      obtain ⟨sc, h4, _f4, h6⟩ := rdv_sound h h3 (.slot N)
      split at h6
      · rename_i k n k' n'
        obtain ⟨⟨rfl, n0, n1, n2⟩, hw'⟩ := h6
        obtain ⟨z, hz1, hz2, inf, i1, i3⟩ := zeroCells_eq hte
        obtain ⟨inf', i1', i2, i4, _⟩ := hte.info
        rw [i1] at i1'
        obtain rfl := Option.some.inj i1'
        have hr := run_make (P := P) E.w t e inf z hu i1 i3 k k' n' n' n0 (Int.le_refl _) (by rw [i4]; exact n2) (by omega)
        rw [i2] at hr
        have hzl : z.cells.size = te.cts.length := by have := congrArg List.length hz2; simpa using this
        refine sound_grown (e := e) (row := none) (F := fun x => (Value.slice (some ⟨E.w.heap.size, 0, none⟩) n'.toNat n'.toNat).ownBlock = some x) (rows := List.replicate n'.toNat (te.cts.map zeroD)) h (v := .slice (some ⟨E.w.heap.size, 0, none⟩) n'.toNat n'.toNat) (w' := E.w.alloc (.cells (madeCells z.cells (n'.toNat * te.cts.length)) e)) ?_ (World.grownBy_alloc _ _ _) (fun x hx => by cases hx) (fun x hx => ?_) (fun E2 hE2 s2 => own_zero hte hTe fun _ => ?_) hw' hK
        · simp only [execOp, ho, h1.int.1, h4.int.1, Sem.run_bind, hr, Result.andThen_ok]; rfl
        · have : E.w.heap.size = x := by simpa [Value.ownBlock] using hx
          subst this
          exact ⟨.inr (Nat.le_refl _), by simp⟩
        · refine ⟨(madeCells z.cells (n'.toNat * te.cts.length)).toList, ⟨by simp [size_madeCells], .inr ⟨E.w.heap.size, n'.toNat, _, by simp, Nat.zero_le _, heap_alloc_new _ _, by simp, by simp only [maxLen]; omega, size_madeCells _ _, ?_⟩⟩, fun k row hk => ?_, fun k j ct d row hk hct hd => ?_⟩
          · rw [List.take_of_length_le (by simp [size_madeCells])]
          · rw [List.getElem?_replicate] at hk
            split at hk
            · obtain rfl := Option.some.inj hk; simp
            · cases hk
          · rw [List.getElem?_replicate] at hk
            split at hk
            · rename_i hlt
              obtain rfl := Option.some.inj hk
              have hjl := (List.getElem?_eq_some_iff.1 hct).1
              rw [List.getElem?_map, hct] at hd
              obtain rfl := Option.some.inj hd
              have hx : k * te.cts.length + j < n'.toNat * te.cts.length := by
                have : (k + 1) * te.cts.length ≤ n'.toNat * te.cts.length := Nat.mul_le_mul_right _ hlt
                rw [Nat.succ_mul] at this
                omega
              refine ⟨?_, rfl⟩
              have hmod : (k * te.cts.length + j) % te.cts.length = j := by
                rw [Nat.mul_comm, Nat.mul_add_mod, Nat.mod_eq_of_lt hjl]
              have hzj : z.cells[j]? = some (zeroV ct) := by
                have : z.cells.toList[j]? = some (zeroV ct) := by rw [hz2, List.getElem?_map, hct]; rfl
                simpa using this
              simp only [madeCells, Array.toList_map, Array.toList_range, List.getElem?_map, List.getElem?_range hx, Option.map_some, hzl, hmod]
              rw [getElem!_def, hzj]
            · cases hk
      · exact h6.elim
  · exact hw.elim
end Go.Proofs.YtaecbmjmcpdgdaaGreat.Ab
namespace Go.Proofs.YtaecbmjmcpdgdaaGreat.Ab
open Go.RowKit
variable {P : Program} {T : Tab} {W : Base} {N : Nat}
def stepPoke (T : Tab) (o : Oper) (t : TypeId) (x y : Operand) : Pg :=
  match o.dst, T t with
  | none, some ty => rdv x fun sx => rdv y fun sy => match sx, sy with
    | .optr q j n k c p, .val ag cs => if ag = ty.agg ∧ cs.length = ty.cts.length then pubs cs fun cs' => match toDs ty.cts cs' with
        | some ds => look q j n fun ag0 cs0 own e rows => match T e with
          | some te => if own = true ∧ dpT T e = false ∧ te.cts.length = c ∧ (te.cts.drop p).take ty.cts.length = ty.cts ∧ p + ty.cts.length ≤ te.cts.length then
              .chk (k < rows.length) (.setF 0 q (.val ag0 (cs0.set j (.sl true e (pokeRow rows k p ds)))) .done) else .fail
          | none => .fail
        | none => .fail
      else .fail
    | _, _ => .fail
  | _, _ => .fail
theorem poke_ok (hT : TabOk P T) {o : Oper} {t : TypeId} {x y : Operand} (ho : o.op = .store t x y) : OpOk P T W N o (stepPoke T o t x y) := by
  intro E Q K Qx h hw hK
  unfold stepPoke at hw
  split at hw
  · rename_i ty hd hty
    obtain ⟨sx, h1, _f1, h3⟩ := rdv_sound h hw (.slot N)
    obtain ⟨sy, h4, f4, h6⟩ := rdv_sound h h3 (.slot N)
    split at h6
    · rename_i q j n k c p ag cs
      split at h6
      · rename_i hlen
        obtain ⟨E', cs', us, r1, s1, c1, t1, g1, e1, el, _, _, w1⟩ := pubs_val h h4 (cellsFree_of_free f4) h6
        have hx := RelSV.step_free (l := .slot N) (sv := .optr q j n k c p) h1 s1.step rfl
        split at w1
        · rename_i ds hds
          obtain ⟨d1, d2, d3⟩ := toDs_spec hds
          have hn : (E'.σ q).1 = n := by
            cases q with
            | slot t' => exact (lookAt_spec (show (lookAt (.slot t') j n _).wp Q E'.σ from w1)).1
            | cell t' j' =>
              have w1' := w1
              unfold look at w1'
              simp only [Pg.wp] at w1'
              split at w1'
              · split at w1'
                · exact (lookAt_spec w1').1
                · exact w1'.elim
              · exact w1'.elim
            | gen t' => exact w1.elim
          obtain ⟨x1, x2⟩ := hx
          obtain ⟨b, o', len, cap, y1, y2⟩ := x2 hn
          obtain ⟨ag0, cs0, own, e, rows, l1, l2, l3, l4, l5⟩ := look_sound r1 w1 (l := .slot N) (j := 0) ⟨x1, fun _ => y1⟩
          split at l5
          · rename_i te hte
            split at l5
            · rename_i hc
              obtain ⟨rfl, hdp, hcl, hct, hpty⟩ := hc
              obtain ⟨hk, hw'⟩ := l5
              rw [Pg.setF_eq] at hw'
              have hob : o' = 0 := by
                obtain ⟨⟨_, _, _, o2, _⟩, _⟩ := OwnF.own l4 hdp
                rcases o2.2 with ⟨hv, _⟩ | ⟨g, cap', cur, hv, _⟩
                · cases hv
                · simp only [Value.slice.injEq, Option.some.injEq, Addr.mk.injEq] at hv
                  exact hv.1.2.1
              subst hob
              have hul : us.length = ty.cts.length := el.trans hlen.2
              have hpl : p + us.length ≤ te.cts.length := by omega
              have hcts : ∀ i, i < ty.cts.length → te.cts[p + i]? = ty.cts[i]? := by
                intro i hi
                conv => rhs; rw [← hct]
                rw [List.getElem?_take, if_pos hi, List.getElem?_drop]
              have hpk := r1.poke (k := k) (p := p) (us := us) (ds := ds) l1 l2 l3 l4 hdp hte (g := b) rfl hk hpl (by omega) (fun i ct u d hi hu hd' => by
                have hil : i < ty.cts.length := by rw [← hul]; exact (List.getElem?_eq_some_iff.1 hu).1
                rw [hcts i hil] at hi
                have hic : i < cs'.length := by rw [d1]; exact hil
                exact (c1.2 i cs'[i] u (List.getElem?_eq_getElem hic) hu).rdR (d3 i ct _ d hi (List.getElem?_eq_getElem hic) hd'))
              rw [hcl] at hpk
              have hthere : E'.w.there b (k * c + p) us.length := by
                intro i hi
                obtain ⟨⟨ty', xs, q1, q2, q3, q4⟩, _⟩ := OwnF.own l4 hdp
                rw [hte] at q1
                obtain rfl := Option.some.inj q1
                rcases q2.2 with ⟨hv, _⟩ | ⟨g, cap', cur, hv, g2, g3, g4, g5, g6, g7⟩
                · cases hv
                · simp only [Value.slice.injEq, Option.some.injEq, Addr.mk.injEq] at hv
                  obtain ⟨⟨rfl, _⟩, _⟩ := hv
                  have hkc : (k + 1) * te.cts.length ≤ cap' * te.cts.length := Nat.mul_le_mul_right _ (by omega)
                  rw [Nat.succ_mul, hcl] at hkc
                  have hlt : k * c + p + i < cur.size := by rw [g6, hcl]; omega
                  refine ⟨?_, ?_⟩
                  · rw [cell_of_row _ _ _ cur e (0, 0) g3]; simp [hlt]
                  · unfold World.frozen?
                    rw [g3]
                    simp
              have hrun := run_store hT ho hty (E := E') (b := b) (p := k * c + p) (by rw [s1.a]; rw [y2]; simp) (us := us) (by rw [s1.a]; exact e1) hul (c1.one t1) hthere
              refine s1.run ?_
              unfold Oper.wp
              rw [hrun, Oper.upon_skip, hd]
              exact hK _ hpk hw'
            · exact l5.elim
          · exact l5.elim
        · exact w1.elim
      · exact h6.elim
    · exact h6.elim
  · exact hw.elim
def stepStoreAny (T : Tab) (o : Oper) (t : TypeId) (x y : Operand) : Pg :=
  rdv x fun sx => match sx with
    | .optr .. => stepPoke T o t x y
    | _ => stepStore T o t x y
theorem storeAny_ok (hT : TabOk P T) {o : Oper} {t : TypeId} {x y : Operand} (ho : o.op = .store t x y) : OpOk P T W N o (stepStoreAny T o t x y) := by
  intro E Q K Qx h hw hK
  obtain ⟨sx, h1, _f1, h3⟩ := rdv_sound h hw (.slot N)
  split at h3
  · exact poke_ok hT ho E Q K Qx h h3 hK
  · exact store_ok hT ho E Q K Qx h h3 hK
def negIf (op : BinOp) (r : Bool) : Option Bool :=
  match op with
  | .eql => some r
  | .neq => some (!r)
  | _ => none
def stepEqB (N : Nat) (o : Oper) (op : BinOp) (x y : Operand) : Pg :=
  rdv x fun sx => rdv y fun sy => match sx, sy with
    | .val false [.b a], .val false [.b b] => match negIf op (a == b) with
      | some r => dstSet N o (.val false [.b r])
      | none => .fail
    | _, _ => .fail
theorem eqB_ok {o : Oper} {op : BinOp} {t t' : TypeId} {x y : Operand} (ho : o.op = .binOp op t x y t') (hu : P.underlying t = some .bool) : OpOk P T W N o (stepEqB N o op x y) := by
  intro E Q K Qx h hw hK
  obtain ⟨sx, h1, _f1, h3⟩ := rdv_sound h hw (.slot N)
  obtain ⟨sy, h4, _f4, h6⟩ := rdv_sound h h3 (.slot N)
  split at h6
  · rename_i a b
    have ea := h1.bool
    have eb := h4.bool
    have hg : ∀ op, (eqGuard op t x y (.bool a) (.bool b)).run P E.w = .ok () E.w := by intro op; cases op <;> simp [eqGuard]
    have he := run_equal_bool (P := P) E.w t a b hu
    split at h6
    · rename_i r hr
      refine sound_value h (v := .bool r) ?_ (mkBool E _ _) h6 hK
      cases op <;> simp only [negIf, Option.some.injEq, reduceCtorEq] at hr <;> (subst hr; simp [execOp, ho, ea, eb, binOp, hg, he])
    · exact h6.elim
  · exact h6.elim
def stepEqS (N : Nat) (o : Oper) (cts : List CT) (op : BinOp) (x y : Operand) : Pg :=
  rdv x fun sx => rdv y fun sy => match sx, sy with
    | .val true a, .val true b => match toDs cts a, toDs cts b with
      | some da, some db => match fitDs cts da, fitDs cts db, negIf op (eqDs cts da db) with
        | true, true, some r => dstSet N o (.val false [.b r])
        | _, _, _ => .fail
      | _, _ => .fail
    | _, _ => .fail
theorem vals_of {E : Env} : ∀ {cts : List CT} {cs : List CV} {us : List Value} {ds : List D} {l : Loc} {j : Nat}, CellsR T W E l j cs us → toDs cts cs = some ds → fitDs cts ds = true → us = valsOf cts ds
  | [], [], us, ds, l, j, h, hd, hf => by
    obtain rfl := Option.some.inj hd
    exact List.length_eq_zero_iff.1 h.1.symm
  | [], _ :: _, us, ds, l, j, h, hd, hf => by cases hd
  | _ :: _, [], us, ds, l, j, h, hd, hf => by cases hd
  | ct :: r, c :: cs, us, ds, l, j, h, hd, hf => by
    simp only [toDs] at hd
    split at hd
    · rename_i d ds' h1 h2
      obtain rfl := Option.some.inj hd
      cases us with
      | nil => exact absurd h.1 (by simp)
      | cons u us =>
        simp only [fitDs, Bool.and_eq_true] at hf
        have hr : CellsR T W E l (j + 1) cs us := by
          refine ⟨by simpa using h.1, fun i c0 u0 hc0 hu0 => ?_⟩
          have := h.2 (i + 1) c0 u0 (by simpa using hc0) (by simpa using hu0)
          rw [show j + 1 + i = j + (i + 1) by omega]
          exact this
        have := vals_of hr h2 hf.2
        have hu := (h.2 0 c u rfl rfl).rdR h1
        simp only [valsOf, this]
        congr 1
        cases hu with
        | int k n hk => rfl
        | bool x => rfl
        | str x hx => rfl
        | nil e A c' hc => cases hf.1
        | sl e ty b o c' rows vs q1 q2 q3 q4 q5 q6 q7 q8 => cases hf.1
    · cases hd
theorem eqS_ok {o : Oper} {op : BinOp} {t t' : TypeId} {x y : Operand} {cts : List CT} (ho : o.op = .binOp op t x y t') (hq : EqFact P t cts) : OpOk P T W N o (stepEqS N o cts op x y) := by
  intro E Q K Qx h hw hK
  obtain ⟨sx, h1, _f1, h3⟩ := rdv_sound h hw (.slot N)
  obtain ⟨sy, h4, _f4, h6⟩ := rdv_sound h h3 (.slot N)
  split at h6
  · rename_i a b
    split at h6
    · rename_i da db hda hdb
      split at h6
      · rename_i r hfa hfb hr
        obtain ⟨us, ea, ca⟩ := h1.cellsR
        obtain ⟨vs, eb, cb⟩ := h4.cellsR
        have va := vals_of ca hda hfa
        have vb := vals_of cb hdb hfb
        rw [va] at ea
        rw [vb] at eb
        have hg : ∀ op, (eqGuard op t x y (.agg (valsOf cts da).toArray) (.agg (valsOf cts db).toArray)).run P E.w = .ok () E.w := fun op => run_eqGuard_agg E.w op t x y _ _ hq.1
        have he := hq.2 E.w da db hfa hfb
        refine sound_value h (v := .bool r) ?_ (mkBool E _ _) h6 hK
        cases op <;> simp only [negIf, Option.some.injEq, reduceCtorEq] at hr
        · subst hr
          simp only [execOp, ho, ea, eb, Sem.run_bind, hg, Result.andThen_ok, run_eql_struct, he]; rfl
        · subst hr
          simp only [execOp, ho, ea, eb, Sem.run_bind, hg, Result.andThen_ok, run_neq_struct, he]; rfl
      · exact h6.elim
    · exact h6.elim
  · exact h6.elim
def stepBinAny (T : Tab) (N : Nat) (o : Oper) (op : BinOp) (t : TypeId) (x y : Operand) : Pg :=
  match T t with
  | some ty => match ty.eq, ty.agg, ty.cts with
    | true, _, cts => stepEqS N o cts op x y
    | _, false, [.b] => stepEqB N o op x y
    | _, _, _ => stepBin N o op x y
  | none => stepBin N o op x y
theorem binAny_ok (hT : TabOk P T) {o : Oper} {op : BinOp} {t t' : TypeId} {x y : Operand} (ho : o.op = .binOp op t x y t') : OpOk P T W N o (stepBinAny T N o op t x y) := by
  unfold stepBinAny
  split
  · rename_i ty hty
    split
    · rename_i hq; exact eqS_ok ho ((hT t ty hty).eqf hq)
    · rename_i hag hcts hov
      obtain ⟨c, hc, hu⟩ := (hT t ty hty).one hag
      rw [hcts] at hc
      obtain rfl : CT.b = c := by simpa using hc
      exact eqB_ok ho hu
    · exact bin_ok ho
  · exact bin_ok ho
end Go.Proofs.YtaecbmjmcpdgdaaGreat.Ab
namespace Go.Proofs.YtaecbmjmcpdgdaaGreat.Ab
open Go.RowKit
variable {P : Program} {T : Tab} {W : Base} {N : Nat}
structure FSpec where
  pre : List SV → Prop
  res : List SV → SV
  bx : Bool := false
  upd : List SV → List CV := fun _ => []
  nb : Bool := false
  nr : Bool := false
def ArgC (T : Tab) (w : World) (X : Nat → Prop) (v : Value) : CV → Prop
  | .i k n => v = .int k n ∧ inK k n
  | .b x => v = .bool x
  | .s x => v = .string x ∧ x.size ≤ maxLen
  | .sl false e rows => RdR T w X (.l e) v (.l rows)
  | _ => False
def ArgR (T : Tab) (w : World) (X : Nat → Prop) (v : Value) : SV → Prop
  | .val true cs => ∃ us : List Value, v = .agg us.toArray ∧ cs.length = us.length ∧ ∀ (i : Nat) c u, cs[i]? = some c → us[i]? = some u → ArgC T w X u c
  | .val false cs => ∃ c, cs = [c] ∧ ArgC T w X v c
  | _ => False
def ArgsR (T : Tab) (w : World) (X : Nat → Prop) (vals : List Value) (args : List SV) : Prop :=
  args.length = vals.length ∧ ∀ (i : Nat) a v, args[i]? = some a → vals[i]? = some v → ArgR T w X v a
def ResC (T : Tab) (w : World) (X : Nat → Prop) (bk : Nat → Nat → Prop) (j : Nat) (v : Value) : CV → Prop
  | .sl true e rows => OwnF T w X (bk j) e v rows
  | c => ArgC T w X v c
def TupR (T : Tab) (w : World) (X : Nat → Prop) (bk : Nat → Nat → Prop) (j : Nat) (u : Value) (p : Bool × List CV) : Prop :=
  (p.1 = true → ∃ us : List Value, u = .agg us.toArray ∧ p.2.length = us.length ∧ ∀ (i : Nat) c x, p.2[i]? = some c → us[i]? = some x → tupC i c ∧ ResC T w X bk (tix j i) x c) ∧
  (p.1 = false → ∃ c, p.2 = [c] ∧ tupC 0 c ∧ ResC T w X bk (tix j 0) u c)
def ResR (T : Tab) (w : World) (X : Nat → Prop) (bk : Nat → Nat → Prop) (v : Value) : SV → Prop
  | .val true cs => ∃ us : List Value, v = .agg us.toArray ∧ cs.length = us.length ∧ ∀ (i : Nat) c u, cs[i]? = some c → us[i]? = some u → ResC T w X bk i u c
  | .val false cs => ∃ c, cs = [c] ∧ ResC T w X bk 0 v c
  | .tup vs => ∃ arr : List Value, v = .tuple arr.toArray ∧ vs.length = arr.length ∧ ∀ (j : Nat) p u, vs[j]? = some p → arr[j]? = some u → TupR T w X bk j u p
  | _ => False
def BoxR (T : Tab) (w : World) (X : Nat → Prop) (b : Nat) (ob : Nat → Nat → Prop) (cs : List CV) : Prop :=
  ∀ (j : Nat) c, cs[j]? = some c → ∃ v, w.cell? ⟨b, j, none⟩ = some v ∧ w.frozen? ⟨b, j, none⟩ = false ∧ ResC T w X ob j v c
def boxB (b : Nat) (ob : Nat → Nat → Prop) (x : Nat) : Prop := x = b ∨ ∃ j, ob j x
structure BoxEnd (T : Tab) (w w' : World) (X : Nat → Prop) (b : Nat) (ob bk ob' : Nat → Nat → Prop) (v : Value) (r : SV) (cs' : List CV) : Prop where
  os : w'.os = w.os
  tape : w'.tape = w.tape
  output : w'.output = w.output
  size : w.heap.size ≤ w'.heap.size
  block : ∀ k, k < w.heap.size → ¬ boxB b ob k → w'.heap[k]? = w.heap[k]?
  res : ResR T w' (fun x => X x ∨ boxB b ob' x ∨ ∃ j, bk j x) bk v r
  box : BoxR T w' (fun x => X x ∨ boxB b ob' x ∨ ∃ j, bk j x) b ob' cs'
  bkl : ∀ j x, bk j x → (w.heap.size ≤ x ∨ ∃ i, ob i x) ∧ x < w'.heap.size
  obl : ∀ j x, ob' j x → (w.heap.size ≤ x ∨ ∃ i, ob i x) ∧ x < w'.heap.size
  bki : ∀ j j' x, bk j x → bk j' x → j = j'
  obi : ∀ j j' x, ob' j x → ob' j' x → j = j'
  bko : ∀ j i x, bk j x → ob' i x → False
structure FOk (P : Program) (T : Tab) (f : FuncId) (s : FSpec) : Prop where
  call : ∀ args w, (callFunc f args).run P w = .ok (.enter f args) w
  okb : s.bx = true → s.nb = false → ∀ (w : World) (X : Nat → Prop) (b : Nat) (ob : Nat → Nat → Prop) (cs : List CV) (args : List SV) (vals : List Value), (∀ x, X x → x < w.heap.size) → b < w.heap.size → ¬ X b →
    (∀ j x, ob j x → x < w.heap.size ∧ ¬ X x ∧ x ≠ b) → (∀ j j' x, ob j x → ob j' x → j = j') → BoxR T w (fun x => X x ∨ boxB b ob x) b ob cs → ArgsR T w (fun x => X x ∨ boxB b ob x) vals args → GlR T w (fun x => X x ∨ boxB b ob x) → s.pre (.tup [(true, cs)] :: args) →
    Calls P f (Value.pointer (some ⟨b, 0, none⟩) :: vals).toArray w fun e w' => ∃ v bk ob', e = .returned v ∧ BoxEnd T w w' X b ob bk ob' v (s.res (.tup [(true, cs)] :: args)) (s.upd (.tup [(true, cs)] :: args))
  ok : s.bx = false → ∀ (w : World) (X : Nat → Prop) (args : List SV) (vals : List Value), (∀ b, X b → b < w.heap.size) → ArgsR T w X vals args → GlR T w X → s.pre args →
    Calls P f vals.toArray w fun e w' => ∃ v bk, e = .returned v ∧ Below w.heap.size w w' ∧ ResR T w' (fun b => X b ∨ ∃ j, bk j b) bk v (s.res args) ∧
      (∀ j b, bk j b → w.heap.size ≤ b ∧ b < w'.heap.size) ∧ ∀ j j' b, bk j b → bk j' b → j = j'
  okn : s.bx = true → s.nb = true → ∀ (w : World) (X : Nat → Prop) (args : List SV) (vals : List Value), (∀ b, X b → b < w.heap.size) → ArgsR T w X vals args → s.pre args →
    Calls P f vals.toArray w fun e w' => ∃ (us : List Value) (et : TypeId), e = .returned (.pointer (some ⟨w.heap.size, 0, none⟩)) ∧ w' = w.alloc (.cells us.toArray et) ∧ (s.upd args).length = us.length ∧ ∀ (i : Nat) c u, (s.upd args)[i]? = some c → us[i]? = some u → ArgC T w X u c
def CV.noRef (T : Tab) : CV → Bool
  | .sl true e _ => match T.dp with
    | true => true
    | false => flatT T e
  | .sl false .. => false
  | _ => true
def SV.noRef (T : Tab) : SV → Bool
  | .val _ cs => cs.all (CV.noRef T)
  | .tup vs => vs.all fun p => p.2.all (CV.noRef T)
  | _ => true
def CV.noRefP (T : Tab) : CV → Prop
  | .sl true e _ => T.dp = true ∨ flatT T e = true
  | .sl false _ rows => rows = []
  | _ => True
def SV.noRefP (T : Tab) : SV → Prop
  | .val _ cs => ∀ c ∈ cs, c.noRefP T
  | .tup vs => ∀ p ∈ vs, ∀ c ∈ p.2, c.noRefP T
  | _ => True
theorem CV.noRefP_of {T : Tab} {c : CV} (h : c.noRef T = true) : c.noRefP T := by
  cases c with
  | sl own e rows => cases own with
    | true =>
      unfold CV.noRef at h
      cases hd : T.dp with
      | true => exact .inl hd
      | false => rw [hd] at h; exact .inr h
    | false => cases h
  | _ => trivial
theorem SV.noRefP_of {T : Tab} {s : SV} (h : s.noRef T = true) : s.noRefP T := by
  cases s with
  | val ag cs => exact fun c hc => CV.noRefP_of (List.all_eq_true.1 h c hc)
  | tup vs => exact fun p hp c hc => CV.noRefP_of (List.all_eq_true.1 (List.all_eq_true.1 h p hp) c hc)
  | _ => trivial
def lend1 (c : CV) (k : CV → Pg) : Pg :=
  match c with
  | .al q i n => look q i n fun _ _ _ e rows => k (.sl false e rows)
  | .dead => .fail
  | c => k c
def lends : List CV → (List CV → Pg) → Pg
  | [], k => k []
  | c :: r, k => lend1 c fun c' => lends r fun r' => k (c' :: r')
def argsGo (f : List CV → (List CV → Pg) → Pg) : List Operand → (List SV → Pg) → Pg
  | [], k => k []
  | x :: r, k => rdv x fun sv => match sv with
    | .val ag cs => f cs fun cs' => (SV.val ag cs').force fun a' => argsGo f r fun r' => k (a' :: r')
    | _ => .fail
def resSet (N : Nat) (o : Oper) (sv : SV) : Pg :=
  match o.dst with
  | some d => .lt d N (.setF 1 (.slot d) sv .done)
  | none => .fail
def stepCall (T : Tab) (N : Nat) (o : Oper) (s : FSpec) (xs : List Operand) : Pg :=
  match s.nr with
  | true => argsGo lends xs fun args => .chk (s.pre args) (.chk ((s.res args).noRefP T) (resSet N o (s.res args)))
  | false => argsGo lends xs fun args => match (s.res args).noRef T with
    | true => .chk (s.pre args) (resSet N o (s.res args))
    | false => argsGo pubs xs fun args => .chk (s.pre args) (resSet N o (s.res args))
def rawCells (t : Nat) : Nat → Nat → (List CV → Pg) → Pg
  | _, 0, k => k []
  | p, n + 1, k => .get (.cell t p) fun v => match v.2 with
    | .val false [c] => match c.set with
      | true => rawCells t (p + 1) n fun r => k (c :: r)
      | false => .fail
    | _ => .fail
def boxSet (N : Nat) (o : Oper) (t : Nat) (cs : List CV) (r : SV) : Pg :=
  setBox t 0 cs (match o.dst with
    | some d => .lt d N (.setF 1 (.slot d) r .done)
    | none => .done)
def stepCallB (N : Nat) (o : Oper) (s : FSpec) : List Operand → Pg
  | x :: xs => argsGo pubs xs fun args => rdv x fun sv => match sv with
    | .ptr t g 0 => .get (.gen t) fun v => if v.1 = g then match v.2 with
        | .num m => rawCells t 0 m fun cs => .chk (s.pre (.tup [(true, cs)] :: args)) (.chk ((s.upd (.tup [(true, cs)] :: args)).length = m) (boxSet N o t (s.upd (.tup [(true, cs)] :: args)) (s.res (.tup [(true, cs)] :: args))))
        | _ => .fail
      else .fail
    | _ => .fail
  | [] => .fail
def stepCallN (N : Nat) (o : Oper) (s : FSpec) (xs : List Operand) : Pg :=
  argsGo pubs xs fun args => .chk (s.pre args) (putBox N o (s.upd args))
def stepCallAny (T : Tab) (N : Nat) (o : Oper) (s : FSpec) (xs : List Operand) : Pg :=
  match s.bx with
  | false => stepCall T N o s xs
  | true => match s.nb with
    | false => stepCallB N o s xs
    | true => stepCallN N o s xs
def XL (E : Env) (lent : Nat → Prop) (b : Nat) : Prop := E.X b ∧ ¬ lent b
theorem RelCV.arg {E : Env} {l : Loc} {j : Nat} {v : Value} {c : CV} (h : RelCV T W E l j v c) (hs : c.set = true) (hf : c.free = true) : ArgC T E.w E.X v c := by
  cases c with
  | sl own e rows =>
    cases own with
    | true => cases hf
    | false => exact h
  | al q i n => cases hs
  | dead => cases hs
  | _ => exact h
theorem ArgC.less {w : World} {X X' : Nat → Prop} {v : Value} {c : CV} (h : ArgC T w X v c) (hx : ∀ b, b < w.heap.size → X' b → X b) : ArgC T w X' v c := by
  cases c with
  | sl own e rows =>
    cases own with
    | true => exact h
    | false => exact RdR.move (h : RdR T w X _ _ _) ⟨Nat.le_refl _, fun _ _ _ => rfl⟩ hx
  | _ => exact h
theorem ArgR.less {w : World} {X X' : Nat → Prop} {v : Value} {a : SV} (h : ArgR T w X v a) (hx : ∀ b, b < w.heap.size → X' b → X b) : ArgR T w X' v a := by
  cases a with
  | val ag cs =>
    cases ag with
    | true =>
      obtain ⟨us, h1, h2, h3⟩ := h
      exact ⟨us, h1, h2, fun i c u hc hu => (h3 i c u hc hu).less hx⟩
    | false =>
      obtain ⟨c, h1, h2⟩ := h
      exact ⟨c, h1, h2.less hx⟩
  | _ => exact h
theorem ArgsR.less {w : World} {X X' : Nat → Prop} {vs : List Value} {as : List SV} (h : ArgsR T w X vs as) (hx : ∀ b, b < w.heap.size → X' b → X b) : ArgsR T w X' vs as :=
  ⟨h.1, fun i a v ha hv => (h.2 i a v ha hv).less hx⟩
theorem ArgsR.cons {w : World} {X : Nat → Prop} {vs : List Value} {as : List SV} {v : Value} {a : SV} (h : ArgR T w X v a) (hs : ArgsR T w X vs as) : ArgsR T w X (v :: vs) (a :: as) :=
  ⟨by simp [hs.1], fun i a' v' ha hv => by
    cases i with
    | zero =>
      obtain rfl := Option.some.inj ha
      obtain rfl := Option.some.inj hv
      exact h
    | succ i => exact hs.2 i a' v' (by simpa using ha) (by simpa using hv)⟩
theorem ArgsR.nil {w : World} {X : Nat → Prop} : ArgsR T w X [] [] := ⟨rfl, fun i a v h => by simp at h⟩
theorem lend1_sound {E : Env} (h : Rel T W N E) {c : CV} {k : CV → Pg} {Q : St → Prop} {l : Loc} {j : Nat} {u : Value} (hc : RelCV T W E l j u c) (hf : c.free = true) (hw : (lend1 c k).wp Q E.σ) :
    ∃ c' lent, ArgC T E.w (XL E lent) u c' ∧ (k c').wp Q E.σ := by
  have triv : ∀ b, b < E.w.heap.size → XL E (fun _ => False) b → E.X b := fun _ _ h => h.1
  cases c with
  | al q i n =>
    obtain ⟨ag, cs, o, e, rows, h1, h2, h3, h4, h5⟩ := look_sound h (show (look q i n _).wp Q E.σ from hw) hc
    cases o with
    | true =>
      refine ⟨.sl false e rows, E.bk q i, ?_, h5⟩
      exact OwnF.shared h4 (fun b _ hb => hb.1) (fun b hb hx => hx.2 hb)
    | false => exact ⟨.sl false e rows, fun _ => False, RdR.move (h4 : RdR T E.w E.X _ _ _) (Keeps.refl _ _) triv, h5⟩
  | dead => exact hw.elim
  | sl own e rows =>
    cases own with
    | true => cases hf
    | false => exact ⟨.sl false e rows, fun _ => False, RdR.move (hc : RdR T E.w E.X _ _ _) (Keeps.refl _ _) triv, hw⟩
  | i k' n => exact ⟨.i k' n, fun _ => False, hc, hw⟩
  | b x => exact ⟨.b x, fun _ => False, hc, hw⟩
  | s x => exact ⟨.s x, fun _ => False, hc, hw⟩
theorem XL_or {E : Env} {A B : Nat → Prop} : (∀ b, b < E.w.heap.size → XL E (fun b => A b ∨ B b) b → XL E A b) ∧ (∀ b, b < E.w.heap.size → XL E (fun b => A b ∨ B b) b → XL E B b) :=
  ⟨fun _ _ h => ⟨h.1, fun a => h.2 (.inl a)⟩, fun _ _ h => ⟨h.1, fun a => h.2 (.inr a)⟩⟩
theorem lends_sound {E : Env} (h : Rel T W N E) : ∀ {cs : List CV} {k : List CV → Pg} {Q : St → Prop} {l : Loc} {j : Nat} {us : List Value}, CellsR T W E l j cs us → cs.all CV.free = true → (lends cs k).wp Q E.σ →
    ∃ cs' lent, cs'.length = us.length ∧ (∀ (i : Nat) c u, cs'[i]? = some c → us[i]? = some u → ArgC T E.w (XL E lent) u c) ∧ (k cs').wp Q E.σ
  | [], k, Q, l, j, us, hc, _, hw => ⟨[], fun _ => False, hc.1, fun i c u h => by simp at h, hw⟩
  | c :: r, k, Q, l, j, us, hc, hf, hw => by
    cases us with
    | nil => exact absurd hc.1 (by simp)
    | cons u us =>
      simp only [List.all_cons, Bool.and_eq_true] at hf
      obtain ⟨c', A, a1, w1⟩ := lend1_sound h (hc.2 0 c u rfl rfl) hf.1 hw
      have hr : CellsR T W E l (j + 1) r us := by
        refine ⟨by simpa using hc.1, fun i c0 u0 hc0 hu0 => ?_⟩
        have := hc.2 (i + 1) c0 u0 (by simpa using hc0) (by simpa using hu0)
        rw [show j + 1 + i = j + (i + 1) by omega]
        exact this
      obtain ⟨r', B, b1, b2, w2⟩ := lends_sound h hr hf.2 w1
      refine ⟨c' :: r', fun b => A b ∨ B b, by simp [b1], fun i c0 u0 hc0 hu0 => ?_, w2⟩
      cases i with
      | zero =>
        obtain rfl := Option.some.inj hc0
        obtain rfl := Option.some.inj hu0
        exact a1.less XL_or.1
      | succ i => exact (b2 i c0 u0 (by simpa using hc0) (by simpa using hu0)).less XL_or.2
theorem RelSV.operand {E : Env} {l : Loc} {v : Value} {ag : Bool} {cs : List CV} (h : RelSV T W E l v (.val ag cs)) : ∃ us : List Value, CellsR T W E l 0 cs us ∧ (ag = true → v = .agg us.toArray) ∧ (ag = false → us = [v] ∧ ∃ c, cs = [c]) := by
  cases ag with
  | true =>
    obtain ⟨us, rfl, h2⟩ := h.cellsR
    exact ⟨us, h2, fun _ => rfl, fun h => by cases h⟩
  | false =>
    obtain ⟨c, rfl, h2⟩ := h
    refine ⟨[v], ⟨rfl, fun i c' u hc hu => ?_⟩, (fun h => by cases h), fun _ => ⟨rfl, c, rfl⟩⟩
    cases i with
    | zero =>
      obtain rfl := Option.some.inj hc
      obtain rfl := Option.some.inj hu
      exact h2
    | succ i => cases hc
theorem argR_of {w : World} {X : Nat → Prop} {ag : Bool} {cs : List CV} {us : List Value} {v : Value} (hl : cs.length = us.length) (ht : ag = true → v = .agg us.toArray) (hf : ag = false → us = [v])
    (h : ∀ (i : Nat) c u, cs[i]? = some c → us[i]? = some u → ArgC T w X u c) : ArgR T w X v (.val ag cs) := by
  cases ag with
  | true => exact ⟨us, ht rfl, hl, h⟩
  | false =>
    have hu := hf rfl
    subst hu
    match cs, hl with
    | [c], _ => exact ⟨c, rfl, h 0 c v rfl rfl⟩
theorem argsLend_sound {E : Env} (h : Rel T W N E) : ∀ {xs : List Operand} {k : List SV → Pg} {Q : St → Prop}, (argsGo lends xs k).wp Q E.σ →
    ∃ args lent, ArgsR T E.w (XL E lent) (xs.map E.a.eval) args ∧ (k args).wp Q E.σ
  | [], k, Q, hw => ⟨[], fun _ => False, .nil, hw⟩
  | x :: r, k, Q, hw => by
    simp only [argsGo] at hw
    obtain ⟨sv, h1, f1, h3⟩ := rdv_sound h hw (.slot N)
    split at h3
    · rename_i ag cs
      obtain ⟨us, u1, u2, u3⟩ := h1.operand
      obtain ⟨cs', A, a1, a2, w1⟩ := lends_sound h u1 (cellsFree_of_free f1) h3
      rw [SV.force_eq] at w1
      obtain ⟨args, B, b1, w2⟩ := argsLend_sound h w1
      exact ⟨_, fun b => A b ∨ B b, .cons ((argR_of a1 u2 (fun h => (u3 h).1) a2).less XL_or.1) (b1.less XL_or.2), w2⟩
    · exact h3.elim
theorem argsPub_sound : ∀ {xs : List Operand} {E : Env} {k : List SV → Pg} {Q : St → Prop}, Rel T W N E → (argsGo pubs xs k).wp Q E.σ →
    ∃ E' args, Rel T W N E' ∧ Same E E' ∧ ArgsR T E'.w E'.X (xs.map E.a.eval) args ∧ (k args).wp Q E'.σ
  | [], E, k, Q, h, hw => ⟨E, [], h, .refl E, .nil, hw⟩
  | x :: r, E, k, Q, h, hw => by
    simp only [argsGo] at hw
    obtain ⟨sv, h1, f1, h3⟩ := rdv_sound h hw (.slot N)
    split at h3
    · rename_i ag cs
      obtain ⟨us, u1, u2, u3⟩ := h1.operand
      obtain ⟨E1, cs', r1, s1, c1, t1, g1, w1⟩ := pubs_sound h u1 (cellsFree_of_free f1) h3
      rw [SV.force_eq] at w1
      obtain ⟨E2, args, r2, s2, b1, w2⟩ := argsPub_sound r1 w1
      refine ⟨E2, _, r2, s1.trans s2, ?_, w2⟩
      rw [s1.a] at b1
      refine .cons ?_ b1
      have hA : ArgR T E1.w E1.X (E.a.eval x) (.val ag cs') := argR_of c1.1 u2 (fun h => (u3 h).1) (fun i c u hc hu => (c1.2 i c u hc hu).arg (List.all_eq_true.1 t1 c (List.mem_of_getElem? hc)) (List.all_eq_true.1 g1 c (List.mem_of_getElem? hc)))
      rw [s2.w]
      exact hA.less (fun b hb hx => s2.step.less b hb hx)
    · exact h3.elim
end Go.Proofs.YtaecbmjmcpdgdaaGreat.Ab
