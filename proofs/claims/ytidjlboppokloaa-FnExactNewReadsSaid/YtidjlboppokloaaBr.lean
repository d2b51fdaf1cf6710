/- From the statement's own reading of its arguments to readings as data. P is any program. -/
import Derived.Test.YtidjlboppokloaaEd
import Derived.Carry
import Derived.WalkKit
namespace Go.Proofs.Ytidjlboppokloaa.Ab
open Go.RowKit Go.ChangeShapes Go.WideShapes
set_option linter.unusedVariables false
variable {P : Program} {T : Tab} {w : World}

/-- Cells that read as a row. -/
def RowR (T : Tab) (w : World) (X : Nat → Prop) (cts : List CT) (cs : List Value) (row : List D) : Prop :=
  cs.length = cts.length ∧ row.length = cts.length ∧ ∀ (j : Nat) ct v d, cts[j]? = some ct → cs[j]? = some v → row[j]? = some d → RdR T w X ct v d
/-- Types whose cells the table tells, field by field. -/
def flatGo (P : Program) (T : Tab) (S : List TypeId) : Nat → List Field → List CT → Bool
  | _, [], cts => cts.isEmpty
  | off, g :: gs, cts => match T g.type with
    | some ty => g.offset == off && S.contains g.type && cts.take ty.cts.length == ty.cts && flatGo P T S (off + ty.cts.length) gs (cts.drop ty.cts.length)
    | none => false
def flatOk (P : Program) (T : Tab) (S : List TypeId) (t : TypeId) : Bool :=
  match T t, P.underlying t with
  | some ty, some .bool => ty.cts == [.b]
  | some ty, some (.int k) => ty.cts == [.i k]
  | some ty, some .string => ty.cts == [.s]
  | some ty, some (.slice e) => ty.cts == [.l e] && S.contains e && decide (0 < P.cellsOf e)
  | some ty, some (.struct fs) => flatGo P T S 0 fs.toList ty.cts
  | _, _ => false
theorem list_choose' {α β : Type} : ∀ (l : List α) (Q : Nat → α → β → Prop), (∀ k a, l[k]? = some a → ∃ b, Q k a b) → ∃ xs : List β, xs.length = l.length ∧ ∀ k x, xs[k]? = some x → ∃ a, l[k]? = some a ∧ Q k a x
  | [], _, _ => ⟨[], rfl, fun k x h => by simp at h⟩
  | a :: r, Q, h => by
    obtain ⟨b, hb⟩ := h 0 a rfl
    obtain ⟨xs, hl, hx⟩ := list_choose' r (fun k => Q (k + 1)) (fun k a' h' => h (k + 1) a' (by simpa using h'))
    refine ⟨b :: xs, by simp [hl], fun k x hk => ?_⟩
    cases k with
    | zero =>
      have e : b = x := by simpa using hk
      subst e
      exact ⟨a, rfl, hb⟩
    | succ k =>
      obtain ⟨a', h1, h2⟩ := hx k x (by simpa using hk)
      exact ⟨a', by simpa using h1, h2⟩
theorem addr_off' (b o k : Nat) : (⟨b, o, none⟩ : Addr).add k = ⟨b, o + k, none⟩ := by unfold Addr.add; split <;> simp_all
theorem rows_go (hT : TabOk P T) {S : List TypeId} {R : TypeId → List Value → Prop} (ih : ∀ t cs, t ∈ S → R t cs → ∃ ty row, T t = some ty ∧ RowR T w (fun _ => False) ty.cts cs row) :
    ∀ (gs : List Field) (off : Nat) (cts : List CT) (cs : List Value), flatGo P T S off gs cts = true → (∀ g ∈ gs, R g.type ((cs.drop g.offset).take (P.cellsOf g.type))) →
      ∃ row : List D, row.length = cts.length ∧ ∀ (j : Nat) ct v d, cts[j]? = some ct → cs[off + j]? = some v → row[j]? = some d → RdR T w (fun _ => False) ct v d
  | [], off, cts, cs, h, _ => by
    have : cts = [] := by simpa [flatGo] using h
    subst this
    exact ⟨[], rfl, fun j ct v d h => by simp at h⟩
  | g :: gs, off, cts, cs, h, hg => by
    unfold flatGo at h
    split at h
    · rename_i ty hty
      simp only [Bool.and_eq_true, beq_iff_eq, List.contains_iff_mem] at h
      obtain ⟨⟨⟨h1, h2⟩, h3⟩, h4⟩ := h
      obtain ⟨ty', r1, hty', a1, a2, a3⟩ := ih g.type _ h2 (hg g (List.mem_cons_self ..))
      rw [hty] at hty'
      obtain rfl := Option.some.inj hty'
      obtain ⟨r2, b1, b2⟩ := rows_go hT ih gs (off + ty.cts.length) (cts.drop ty.cts.length) cs h4 (fun g' hg' => hg g' (List.mem_cons_of_mem _ hg'))
      have hlen : ty.cts.length ≤ cts.length := by
        have := congrArg List.length h3
        rw [List.length_take] at this
        omega
      refine ⟨r1 ++ r2, by rw [List.length_append, a2, b1, List.length_drop]; omega, fun j ct v d hc hv hd => ?_⟩
      by_cases hj : j < ty.cts.length
      · rw [List.getElem?_append_left (by rw [a2]; exact hj)] at hd
        refine a3 j ct v d ?_ ?_ hd
        · rw [← h3, List.getElem?_take, if_pos hj]; exact hc
        · rw [(hT _ _ hty).cellsOf, List.getElem?_take, if_pos hj, List.getElem?_drop, h1]; exact hv
      · rw [List.getElem?_append_right (by rw [a2]; omega), a2] at hd
        refine b2 (j - ty.cts.length) ct v d ?_ ?_ hd
        · rw [List.getElem?_drop]; rw [show ty.cts.length + (j - ty.cts.length) = j by omega]; exact hc
        · rw [show off + ty.cts.length + (j - ty.cts.length) = off + j by omega]; exact hv
    · cases h
theorem row_of_trod (hT : TabOk P T) {H : Type} {enc : TypeId × Value → H} {S : List TypeId} (hS : S.all (flatOk P T S) = true) {sp : Nat → Bool} :
    ∀ (f : Nat) (t : TypeId) (cs : List Value) (x : DataW H × List MemPlace), t ∈ S → DataW.trod enc P w 0 sp true f t cs = some x → ∃ ty row, T t = some ty ∧ RowR T w (fun _ => False) ty.cts cs row
  | 0, _, _, _, _, h => by simp [DataW.trod] at h
  | f + 1, t, cs, x, ht, h => by
    have one : ∀ {ct v d}, RdR T w (fun _ => False) ct v d → RowR T w (fun _ => False) [ct] [v] [d] := fun {ct v d} h => ⟨rfl, rfl, fun j c u e a b g => by
      cases j with
      | zero =>
        obtain rfl := Option.some.inj a
        obtain rfl := Option.some.inj b
        obtain rfl := Option.some.inj g
        exact h
      | succ j => cases a⟩
    have hp : flatOk P T S t = true := List.all_eq_true.1 hS t ht
    unfold flatOk at hp
    split at hp
    · rename_i ty hty hu
      obtain ⟨b, e1, _, _⟩ := DataW.trod_bool hu h
      subst e1
      exact ⟨ty, [.b b], hty, by rw [show ty.cts = [.b] by simpa using hp]; exact one (.bool b)⟩
    · rename_i ty k hty hu
      obtain ⟨n, e1, _, hw⟩ := DataW.trod_int hu h
      subst e1
      exact ⟨ty, [.i n], hty, by rw [show ty.cts = [.i k] by simpa using hp]; exact one (.int k n (by simpa [Lit.wf, inK] using hw))⟩
    · rename_i ty hty hu
      obtain ⟨s, e1, _, hw⟩ := DataW.trod_string hu h
      subst e1
      exact ⟨ty, [.s s], hty, by rw [show ty.cts = [.s] by simpa using hp]; exact one (.str s hw)⟩
    · rename_i ty e hty hu
      simp only [Bool.and_eq_true, decide_eq_true_eq, List.contains_iff_mem, beq_iff_eq] at hp
      obtain ⟨⟨hc, he⟩, hpos⟩ := hp
      rcases DataW.trod_slice hu h with ⟨e1, _⟩ | ⟨a, len, cap, elems, rest, n, hf, e1, _, _, hl, hm, hlen, hel, _, _⟩
      · subst e1
        exact ⟨ty, [.l []], hty, by rw [hc]; exact one (.nil e none 0 (Nat.zero_le _))⟩
      · obtain rfl : f = n := by omega
        subst e1
        by_cases hn : len = 0
        · subst hn
          exact ⟨ty, [.l []], hty, by rw [hc]; exact one (.nil e (some a) cap hm)⟩
        have step : ∀ k y, elems[k]? = some y → ∃ cs', w.cells? 0 (a.add (k * P.cellsOf e)) (P.cellsOf e) = some cs' ∧ DataW.trod enc P w 0 sp true f e cs' = some y := by
          intro k y hy
          have hk : k < len := by rw [← hlen]; exact (List.getElem?_eq_some_iff.1 hy).1
          have h1 := hel k hk
          rw [hy] at h1
          cases hc : w.cells? 0 (a.add (k * P.cellsOf e)) (P.cellsOf e) with
          | none => rw [hc] at h1; cases h1
          | some cs' => rw [hc] at h1; exact ⟨cs', rfl, h1⟩
        have hte : ∃ te, T e = some te := by
          obtain ⟨cs', _, ht'⟩ := step 0 _ (List.getElem?_eq_getElem (by omega))
          obtain ⟨te, _, hte, _⟩ := row_of_trod hT hS f e cs' _ he ht'
          exact ⟨te, hte⟩
        obtain ⟨te, hte⟩ := hte
        have hC : P.cellsOf e = te.cts.length := (hT _ _ hte).cellsOf
        obtain ⟨rows, hxl, hx⟩ := list_choose' elems (fun k y (row : List D) => ∃ cs', w.cells? 0 (a.add (k * P.cellsOf e)) (P.cellsOf e) = some cs' ∧ RowR T w (fun _ => False) te.cts cs' row) (fun k y hy => by
          obtain ⟨cs', hc, ht'⟩ := step k y hy
          obtain ⟨te', row, hte', hr⟩ := row_of_trod hT hS f e cs' y he ht'
          rw [hte] at hte'
          obtain rfl := Option.some.inj hte'
          exact ⟨row, cs', hc, hr⟩)
        have hrl : rows.length = len := hxl.trans hlen
        obtain ⟨b, o, spot⟩ := a
        have hs : spot = none ∧ b < w.heap.size := by
          obtain ⟨cs', hc, _⟩ := step 0 _ (List.getElem?_eq_getElem (by omega))
          obtain ⟨_, hcl, hat⟩ := World.cells?_some hc
          have h0 := hat 0 hpos
          rw [List.getElem?_eq_getElem (by omega)] at h0
          have h1 := World.cell?_spot h0
          have h2 := World.block_lt_of_cell? w _ h0
          rw [Nat.zero_mul] at h1 h2
          exact ⟨by simpa [Addr.add] using h1, by simpa [Addr.add] using h2⟩
        obtain ⟨hs, hb⟩ := hs
        subst hs
        refine ⟨ty, [.l rows], hty, ?_⟩
        rw [hc, ← hrl]
        have cell : ∀ k row, rows[k]? = some row → ∃ cs' : List Value, cs'.length = te.cts.length ∧ row.length = te.cts.length ∧ (∀ j, j < te.cts.length → w.cell? ⟨b, o + k * te.cts.length + j, none⟩ = cs'[j]?) ∧ RowR T w (fun _ => False) te.cts cs' row := by
          intro k row hk
          obtain ⟨y, _, cs', hc', hr⟩ := hx k row hk
          obtain ⟨_, hcl, hat⟩ := World.cells?_some hc'
          refine ⟨cs', hr.1, hr.2.1, fun j hj => ?_, hr⟩
          have h1 := hat j (by rw [hC]; exact hj)
          rw [addr_off', addr_off', hC] at h1
          exact h1
        refine one (.sl e te b o cap rows (fun k j => (w.cell? ⟨b, o + k * te.cts.length + j, none⟩).getD undef) hte (by omega) hm (fun h => h) hb (fun k j hk hj => ?_) (fun k row hk => ?_) (fun k j ct d row hk hct hd => ?_))
        · obtain ⟨cs', c1, _, c2, _⟩ := cell k rows[k] (List.getElem?_eq_getElem hk)
          rw [c2 j hj, List.getElem?_eq_getElem (by omega)]; rfl
        · obtain ⟨cs', _, c1, _⟩ := cell k row hk
          exact c1
        · obtain ⟨cs', c0, c1, c2, c3⟩ := cell k row hk
          have hj : j < te.cts.length := (List.getElem?_eq_some_iff.1 hct).1
          have hv : cs'[j]? = some cs'[j] := List.getElem?_eq_getElem (by omega)
          rw [c2 j hj, hv]
          exact c3.2.2 j ct _ d hct hv hd
    · rename_i ty fs hty hu
      obtain ⟨ys, n, hf, _, hcl, hyl, hg⟩ := DataW.trod_struct hu h
      obtain rfl : f = n := by omega
      obtain ⟨row, h1, h2⟩ := rows_go (w := w) hT (R := fun t cs => ∃ x, DataW.trod enc P w 0 sp true f t cs = some x) (fun t cs ht ⟨x, hx⟩ => row_of_trod hT hS f t cs x ht hx) fs.toList 0 ty.cts cs hp (fun g hgm => by
        obtain ⟨k, hk⟩ := List.getElem?_of_mem hgm
        have hk' : fs[k]? = some g := by simpa using hk
        have hkl : k < fs.size := (Array.getElem?_eq_some_iff.1 hk').1
        have h1 := hg k g hk'
        rw [List.getElem?_eq_getElem (show k < ys.length by omega)] at h1
        exact ⟨_, h1⟩)
      refine ⟨ty, row, hty, by rw [hcl]; exact (hT _ _ hty).cellsOf, h1, fun j ct v d a b c => h2 j ct v d a (by rw [Nat.zero_add]; exact b) c⟩
    · cases hp
theorem RowR.wf {X : Nat → Prop} {cts : List CT} {cs : List Value} {row : List D} (h : RowR T w X cts cs row) : WfRow T cts row := by
  refine ⟨h.2.1, fun j ct d hc hd => ?_⟩
  have hj : j < cs.length := by rw [h.1]; exact (List.getElem?_eq_some_iff.1 hc).1
  exact (h.2.2 j ct _ d hc (List.getElem?_eq_getElem hj) hd).wf
theorem RdR.argC {X : Nat → Prop} {ct : CT} {v : Value} {d : D} (h : RdR T w X ct v d) : ArgC T w X v (ofD ct d) := by
  cases h with
  | int k n h => exact ⟨rfl, h⟩
  | bool x => rfl
  | str x h => exact ⟨rfl, h⟩
  | nil e A c h => exact RdR.nil e A c h
  | sl e ty b o c rows vs h1 h2 h3 h4 h5 h6 h7 h8 => exact RdR.sl e ty b o c rows vs h1 h2 h3 h4 h5 h6 h7 h8
theorem RowR.argG {X : Nat → Prop} {cts : List CT} {cs : Array Value} {row : List D} (h : RowR T w X cts cs.toList row) : ArgR T w X (.agg cs) (argG cts row) := by
  refine ⟨cs.toList, rfl, by simp [rowC, ← h.1], fun i c u hc hu => ?_⟩
  simp only [rowC, List.getElem?_map, List.getElem?_zipIdx, Nat.zero_add] at hc
  cases hct : cts[i]? with
  | none => rw [hct] at hc; cases hc
  | some ct =>
    rw [hct] at hc
    obtain rfl := Option.some.inj hc
    have hi : i < row.length := by rw [h.2.1]; exact (List.getElem?_eq_some_iff.1 hct).1
    have hd : row[i]? = some (row.getD i default) := by simp [List.getD_eq_getElem?_getD, List.getElem?_eq_getElem hi]
    exact (h.2.2 i ct u _ hct hu hd).argC
theorem RowR.argS {X : Nat → Prop} {e : TypeId} {v : Value} {row : List D} (h : RowR T w X [.l e] [v] row) : ArgR T w X v (argS e (row.getD 0 default).rows) := by
  have hi : 0 < row.length := by rw [h.2.1]; simp
  have hd : row[0]? = some (row.getD 0 default) := by simp [List.getD_eq_getElem?_getD, List.getElem?_eq_getElem hi]
  exact ⟨_, rfl, (h.2.2 0 _ v _ rfl rfl hd).argC⟩
theorem ArgsR.one {w : World} {X : Nat → Prop} {v : Value} {a : SV} (h : ArgR T w X v a) : ArgsR T w X [v] [a] := .cons h .nil
end Go.Proofs.Ytidjlboppokloaa.Ab
