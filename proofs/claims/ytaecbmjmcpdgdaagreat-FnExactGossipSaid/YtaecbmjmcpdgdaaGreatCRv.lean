/- From the statement's own reading of its arguments to readings as data. P is any program. Calls of the law FnExactGossip, each said plainly. Sizes for the law FnExactGossip. The law FnExactGossip, walked over any list. -/
import Derived.Test.YtaecbmjmcpdgdaaGreatCEd
import Derived.Carry
import Derived.WalkKit
import Derived.Test.YtaecbmjmcpdgdaaGreatCEo
import Derived.Test.YtaecbmjmcpdgdaaGreatCGu
import Derived.Test.YtaecbmjmcpdgdaaGreatCMk
import Derived.Test.YtaecbmjmcpdgdaaGreatCMo
import Derived.Test.YtaecbmjmcpdgdaaGreatCEj
import Derived.Test.YtaecbmjmcpdgdaaGreatCEe
import Derived.Test.YtaecbmjmcpdgdaaGreatCMx
import Derived.Test.YtaecbmjmcpdgdaaGreatCFa
namespace Go.Proofs.YtaecbmjmcpdgdaaGreat.Ab
open Go.RowKit Go.ChangeShapes Go.WideShapes
set_option linter.unusedVariables false
variable {P : Program} {T : Tab} {w : World}
def RowR (T : Tab) (w : World) (X : Nat → Prop) (cts : List CT) (cs : List Value) (row : List D) : Prop :=
  cs.length = cts.length ∧ row.length = cts.length ∧ ∀ (j : Nat) ct v d, cts[j]? = some ct → cs[j]? = some v → row[j]? = some d → RdR T w X ct v d
def flatGo (P : Program) (T : Tab) (S : List TypeId) : Nat → List Field → List CT → Bool
  | _, [], cts => cts.isEmpty
  | off, g :: gs, cts => match T g.type with
    | some ty => g.offset == off && S.contains g.type && cts.take ty.cts.length == ty.cts && flatGo P T S (off + ty.cts.length) gs (cts.drop ty.cts.length)
    | none => false
def flatOk (P : Program) (T : Tab) (S : List TypeId) (t : TypeId) : Bool :=
  match T t, P.underlying t with
  | some ty, some .bool => ty.cts == [.b]
  | some ty, some (.int k) => ty.cts == [.i k]
  | some ty, some .string => ty.cts == [.s]
  | some ty, some (.slice e) => ty.cts == [.l e] && S.contains e && decide (0 < P.cellsOf e)
  | some ty, some (.struct fs) => flatGo P T S 0 fs.toList ty.cts
  | _, _ => false
theorem list_choose' {α β : Type} : ∀ (l : List α) (Q : Nat → α → β → Prop), (∀ k a, l[k]? = some a → ∃ b, Q k a b) → ∃ xs : List β, xs.length = l.length ∧ ∀ k x, xs[k]? = some x → ∃ a, l[k]? = some a ∧ Q k a x
  | [], _, _ => ⟨[], rfl, fun k x h => by simp at h⟩
  | a :: r, Q, h => by
    obtain ⟨b, hb⟩ := h 0 a rfl
    obtain ⟨xs, hl, hx⟩ := list_choose' r (fun k => Q (k + 1)) (fun k a' h' => h (k + 1) a' (by simpa using h'))
    refine ⟨b :: xs, by simp [hl], fun k x hk => ?_⟩
    cases k with
    | zero =>
      have e : b = x := by simpa using hk
      subst e
      exact ⟨a, rfl, hb⟩
    | succ k =>
      obtain ⟨a', h1, h2⟩ := hx k x (by simpa using hk)
      exact ⟨a', by simpa using h1, h2⟩
theorem addr_off' (b o k : Nat) : (⟨b, o, none⟩ : Addr).add k = ⟨b, o + k, none⟩ := by unfold Addr.add; split <;> simp_all
theorem rows_go (hT : TabOk P T) {S : List TypeId} {R : TypeId → List Value → Prop} (ih : ∀ t cs, t ∈ S → R t cs → ∃ ty row, T t = some ty ∧ RowR T w (fun _ => False) ty.cts cs row) :
    ∀ (gs : List Field) (off : Nat) (cts : List CT) (cs : List Value), flatGo P T S off gs cts = true → (∀ g ∈ gs, R g.type ((cs.drop g.offset).take (P.cellsOf g.type))) →
      ∃ row : List D, row.length = cts.length ∧ ∀ (j : Nat) ct v d, cts[j]? = some ct → cs[off + j]? = some v → row[j]? = some d → RdR T w (fun _ => False) ct v d
  | [], off, cts, cs, h, _ => by
    have : cts = [] := by simpa [flatGo] using h
    subst this
    exact ⟨[], rfl, fun j ct v d h => by simp at h⟩
  | g :: gs, off, cts, cs, h, hg => by
    unfold flatGo at h
    split at h
    · rename_i ty hty
      simp only [Bool.and_eq_true, beq_iff_eq, List.contains_iff_mem] at h
      obtain ⟨⟨⟨h1, h2⟩, h3⟩, h4⟩ := h
      obtain ⟨ty', r1, hty', a1, a2, a3⟩ := ih g.type _ h2 (hg g (List.mem_cons_self ..))
      rw [hty] at hty'
      obtain rfl := Option.some.inj hty'
      obtain ⟨r2, b1, b2⟩ := rows_go hT ih gs (off + ty.cts.length) (cts.drop ty.cts.length) cs h4 (fun g' hg' => hg g' (List.mem_cons_of_mem _ hg'))
      have hlen : ty.cts.length ≤ cts.length := by
        have := congrArg List.length h3
        rw [List.length_take] at this
        omega
      refine ⟨r1 ++ r2, by rw [List.length_append, a2, b1, List.length_drop]; omega, fun j ct v d hc hv hd => ?_⟩
      by_cases hj : j < ty.cts.length
      · rw [List.getElem?_append_left (by rw [a2]; exact hj)] at hd
        refine a3 j ct v d ?_ ?_ hd
        · rw [← h3, List.getElem?_take, if_pos hj]; exact hc
        · rw [(hT _ _ hty).cellsOf, List.getElem?_take, if_pos hj, List.getElem?_drop, h1]; exact hv
      · rw [List.getElem?_append_right (by rw [a2]; omega), a2] at hd
        refine b2 (j - ty.cts.length) ct v d ?_ ?_ hd
        · rw [List.getElem?_drop]; rw [show ty.cts.length + (j - ty.cts.length) = j by omega]; exact hc
        · rw [show off + ty.cts.length + (j - ty.cts.length) = off + j by omega]; exact hv
    · cases h
theorem row_of_trod (hT : TabOk P T) {H : Type} {enc : TypeId × Value → H} {S : List TypeId} (hS : S.all (flatOk P T S) = true) {sp : Nat → Bool} :
    ∀ (f : Nat) (t : TypeId) (cs : List Value) (x : DataW H × List MemPlace), t ∈ S → DataW.trod enc P w 0 sp true f t cs = some x → ∃ ty row, T t = some ty ∧ RowR T w (fun _ => False) ty.cts cs row
  | 0, _, _, _, _, h => by simp [DataW.trod] at h
  | f + 1, t, cs, x, ht, h => by
    have one : ∀ {ct v d}, RdR T w (fun _ => False) ct v d → RowR T w (fun _ => False) [ct] [v] [d] := fun {ct v d} h => ⟨rfl, rfl, fun j c u e a b g => by
      cases j with
      | zero =>
        obtain rfl := Option.some.inj a
        obtain rfl := Option.some.inj b
        obtain rfl := Option.some.inj g
        exact h
      | succ j => cases a⟩
    have hp : flatOk P T S t = true := List.all_eq_true.1 hS t ht
    unfold flatOk at hp
    split at hp
    · rename_i ty hty hu
      obtain ⟨b, e1, _, _⟩ := DataW.trod_bool hu h
      subst e1
      exact ⟨ty, [.b b], hty, by rw [show ty.cts = [.b] by simpa using hp]; exact one (.bool b)⟩
    · rename_i ty k hty hu
      obtain ⟨n, e1, _, hw⟩ := DataW.trod_int hu h
      subst e1
      exact ⟨ty, [.i n], hty, by rw [show ty.cts = [.i k] by simpa using hp]; exact one (.int k n (by simpa [Lit.wf, inK] using hw))⟩
    · rename_i ty hty hu
      obtain ⟨s, e1, _, hw⟩ := DataW.trod_string hu h
      subst e1
      exact ⟨ty, [.s s], hty, by rw [show ty.cts = [.s] by simpa using hp]; exact one (.str s hw)⟩
    · rename_i ty e hty hu
      simp only [Bool.and_eq_true, decide_eq_true_eq, List.contains_iff_mem, beq_iff_eq] at hp
      obtain ⟨⟨hc, he⟩, hpos⟩ := hp
      rcases DataW.trod_slice hu h with ⟨e1, _⟩ | ⟨a, len, cap, elems, rest, n, hf, e1, _, _, hl, hm, hlen, hel, _, _⟩
      · subst e1
        exact ⟨ty, [.l []], hty, by rw [hc]; exact one (.nil e none 0 (Nat.zero_le _))⟩
      · obtain rfl : f = n := by omega
        subst e1
        by_cases hn : len = 0
        · subst hn
          exact ⟨ty, [.l []], hty, by rw [hc]; exact one (.nil e (some a) cap hm)⟩
        have step : ∀ k y, elems[k]? = some y → ∃ cs', w.cells? 0 (a.add (k * P.cellsOf e)) (P.cellsOf e) = some cs' ∧ DataW.trod enc P w 0 sp true f e cs' = some y := by
          intro k y hy
          have hk : k < len := by rw [← hlen]; exact (List.getElem?_eq_some_iff.1 hy).1
          have h1 := hel k hk
          rw [hy] at h1
          cases hc : w.cells? 0 (a.add (k * P.cellsOf e)) (P.cellsOf e) with
          | none => rw [hc] at h1; cases h1
          | some cs' => rw [hc] at h1; exact ⟨cs', rfl, h1⟩
        have hte : ∃ te, T e = some te := by
          obtain ⟨cs', _, ht'⟩ := step 0 _ (List.getElem?_eq_getElem (by omega))
          obtain ⟨te, _, hte, _⟩ := row_of_trod hT hS f e cs' _ he ht'
          exact ⟨te, hte⟩
        obtain ⟨te, hte⟩ := hte
        have hC : P.cellsOf e = te.cts.length := (hT _ _ hte).cellsOf
        obtain ⟨rows, hxl, hx⟩ := list_choose' elems (fun k y (row : List D) => ∃ cs', w.cells? 0 (a.add (k * P.cellsOf e)) (P.cellsOf e) = some cs' ∧ RowR T w (fun _ => False) te.cts cs' row) (fun k y hy => by
          obtain ⟨cs', hc, ht'⟩ := step k y hy
          obtain ⟨te', row, hte', hr⟩ := row_of_trod hT hS f e cs' y he ht'
          rw [hte] at hte'
          obtain rfl := Option.some.inj hte'
          exact ⟨row, cs', hc, hr⟩)
        have hrl : rows.length = len := hxl.trans hlen
        obtain ⟨b, o, spot⟩ := a
        have hs : spot = none ∧ b < w.heap.size := by
          obtain ⟨cs', hc, _⟩ := step 0 _ (List.getElem?_eq_getElem (by omega))
          obtain ⟨_, hcl, hat⟩ := World.cells?_some hc
          have h0 := hat 0 hpos
          rw [List.getElem?_eq_getElem (by omega)] at h0
          have h1 := World.cell?_spot h0
          have h2 := World.block_lt_of_cell? w _ h0
          rw [Nat.zero_mul] at h1 h2
          exact ⟨by simpa [Addr.add] using h1, by simpa [Addr.add] using h2⟩
        obtain ⟨hs, hb⟩ := hs
        subst hs
        refine ⟨ty, [.l rows], hty, ?_⟩
        rw [hc, ← hrl]
        have cell : ∀ k row, rows[k]? = some row → ∃ cs' : List Value, cs'.length = te.cts.length ∧ row.length = te.cts.length ∧ (∀ j, j < te.cts.length → w.cell? ⟨b, o + k * te.cts.length + j, none⟩ = cs'[j]?) ∧ RowR T w (fun _ => False) te.cts cs' row := by
          intro k row hk
          obtain ⟨y, _, cs', hc', hr⟩ := hx k row hk
          obtain ⟨_, hcl, hat⟩ := World.cells?_some hc'
          refine ⟨cs', hr.1, hr.2.1, fun j hj => ?_, hr⟩
          have h1 := hat j (by rw [hC]; exact hj)
          rw [addr_off', addr_off', hC] at h1
          exact h1
        refine one (.sl e te b o cap rows (fun k j => (w.cell? ⟨b, o + k * te.cts.length + j, none⟩).getD undef) hte (by omega) hm (fun h => h) hb (fun k j hk hj => ?_) (fun k row hk => ?_) (fun k j ct d row hk hct hd => ?_))
        · obtain ⟨cs', c1, _, c2, _⟩ := cell k rows[k] (List.getElem?_eq_getElem hk)
          rw [c2 j hj, List.getElem?_eq_getElem (by omega)]; rfl
        · obtain ⟨cs', _, c1, _⟩ := cell k row hk
          exact c1
        · obtain ⟨cs', c0, c1, c2, c3⟩ := cell k row hk
          have hj : j < te.cts.length := (List.getElem?_eq_some_iff.1 hct).1
          have hv : cs'[j]? = some cs'[j] := List.getElem?_eq_getElem (by omega)
          rw [c2 j hj, hv]
          exact c3.2.2 j ct _ d hct hv hd
    · rename_i ty fs hty hu
      obtain ⟨ys, n, hf, _, hcl, hyl, hg⟩ := DataW.trod_struct hu h
      obtain rfl : f = n := by omega
      obtain ⟨row, h1, h2⟩ := rows_go (w := w) hT (R := fun t cs => ∃ x, DataW.trod enc P w 0 sp true f t cs = some x) (fun t cs ht ⟨x, hx⟩ => row_of_trod hT hS f t cs x ht hx) fs.toList 0 ty.cts cs hp (fun g hgm => by
        obtain ⟨k, hk⟩ := List.getElem?_of_mem hgm
        have hk' : fs[k]? = some g := by simpa using hk
        have hkl : k < fs.size := (Array.getElem?_eq_some_iff.1 hk').1
        have h1 := hg k g hk'
        rw [List.getElem?_eq_getElem (show k < ys.length by omega)] at h1
        exact ⟨_, h1⟩)
      refine ⟨ty, row, hty, by rw [hcl]; exact (hT _ _ hty).cellsOf, h1, fun j ct v d a b c => h2 j ct v d a (by rw [Nat.zero_add]; exact b) c⟩
    · cases hp
theorem RowR.wf {X : Nat → Prop} {cts : List CT} {cs : List Value} {row : List D} (h : RowR T w X cts cs row) : WfRow T cts row := by
  refine ⟨h.2.1, fun j ct d hc hd => ?_⟩
  have hj : j < cs.length := by rw [h.1]; exact (List.getElem?_eq_some_iff.1 hc).1
  exact (h.2.2 j ct _ d hc (List.getElem?_eq_getElem hj) hd).wf
theorem RdR.argC {X : Nat → Prop} {ct : CT} {v : Value} {d : D} (h : RdR T w X ct v d) : ArgC T w X v (ofD ct d) := by
  cases h with
  | int k n h => exact ⟨rfl, h⟩
  | bool x => rfl
  | str x h => exact ⟨rfl, h⟩
  | nil e A c h => exact RdR.nil e A c h
  | sl e ty b o c rows vs h1 h2 h3 h4 h5 h6 h7 h8 => exact RdR.sl e ty b o c rows vs h1 h2 h3 h4 h5 h6 h7 h8
theorem RowR.argG {X : Nat → Prop} {cts : List CT} {cs : Array Value} {row : List D} (h : RowR T w X cts cs.toList row) : ArgR T w X (.agg cs) (argG cts row) := by
  refine ⟨cs.toList, rfl, by simp [rowC, ← h.1], fun i c u hc hu => ?_⟩
  simp only [rowC, List.getElem?_map, List.getElem?_zipIdx, Nat.zero_add] at hc
  cases hct : cts[i]? with
  | none => rw [hct] at hc; cases hc
  | some ct =>
    rw [hct] at hc
    obtain rfl := Option.some.inj hc
    have hi : i < row.length := by rw [h.2.1]; exact (List.getElem?_eq_some_iff.1 hct).1
    have hd : row[i]? = some (row.getD i default) := by simp [List.getD_eq_getElem?_getD, List.getElem?_eq_getElem hi]
    exact (h.2.2 i ct u _ hct hu hd).argC
theorem RowR.argS {X : Nat → Prop} {e : TypeId} {v : Value} {row : List D} (h : RowR T w X [.l e] [v] row) : ArgR T w X v (argS e (row.getD 0 default).rows) := by
  have hi : 0 < row.length := by rw [h.2.1]; simp
  have hd : row[0]? = some (row.getD 0 default) := by simp [List.getD_eq_getElem?_getD, List.getElem?_eq_getElem hi]
  exact ⟨_, rfl, (h.2.2 0 _ v _ rfl rfl hd).argC⟩
theorem ArgsR.one {w : World} {X : Nat → Prop} {v : Value} {a : SV} (h : ArgR T w X v a) : ArgsR T w X [v] [a] := .cons h .nil
end Go.Proofs.YtaecbmjmcpdgdaaGreat.Ab
namespace Go.Proofs.YtaecbmjmcpdgdaaGreat
open Go.RowKit Ab
set_option linter.unusedVariables false
set_option maxRecDepth 100000
section
variable {w : World} (hL : GlR T w (fun _ => False))
include hL
theorem szT {v : Value} {a : List (List D)} (R : RdR T w (fun _ => False) (.l 33) v (.l a)) {l : Int} (h0 : 0 ≤ l) (h1 : l ≤ 1048576) :
    Calls Tryz.prog 4 #[v, .int .i64 l] w fun e w' => e = .returned (.int .i64 (szR l (a.length + wRows a))) ∧ Below w.heap.size w w' := by
  refine (Ab.ok4.ok rfl w (fun _ => False) [argS 33 a, .val false [.i .i64 l]] [v, _] (fun b h => h.elim) (ArgsR.cons ⟨_, rfl, R⟩ (ArgsR.one ⟨_, rfl, rfl, ⟨Int.le_trans (by decide) h0, Int.le_trans h1 (by decide)⟩⟩)) hL ⟨a, l, h0, h1, rfl⟩).mono ?_
  rintro e w' ⟨u, bk, rfl, hb, hr, -, -⟩
  refine ⟨?_, hb⟩
  rw [one_int hr]
  have : wRow (csD [CV.sl false 33 a]) = a.length + wRows a := by simp [csD, CV.d, wRow, wD]
  rw [this]
theorem toT {v : Value} {a : List (List D)} (R : RdR T w (fun _ => False) (.l 33) v (.l a)) (hs : a.length + wRows a ≤ 1048576) :
    Calls Tryz.prog 6 #[v] w fun e w' => ∃ (u : Value) (F : Nat → Prop), e = .returned u ∧ Below w.heap.size w w' ∧ DeepV T w' F (.l 36) u (.l a) ∧ ∀ b, F b → w.heap.size ≤ b := by
  refine (Ab.co6.ok rfl w (fun _ => False) [argS 33 a] [v] (fun b h => h.elim) (ArgsR.one ⟨_, rfl, R.on true⟩) (hL.on true) ⟨a, hs, rfl⟩).mono ?_
  rintro e w' ⟨u, bk, rfl, hb, hr, hlt, -⟩
  obtain ⟨c, hc, hv⟩ := hr
  obtain rfl : CV.sl true 36 a = c := by simpa using hc
  exact ⟨u, bk 0, rfl, hb, DeepV.off (b := true) (OwnF.toDeep (X := fun b => False ∨ ∃ j, bk j b) hv rfl), fun b h => (hlt 0 b h).1⟩
theorem gsI {u : Value} {a : List (List D)} (R0 : RdR T w (fun _ => False) (.l 36) u (.l a)) (ha : a.length + wRows a ≤ 1048576) :
    Calls Tryz.prog 7 #[u] w fun e w' => ∃ (x : Value) (F : Nat → Prop), e = .returned x ∧ Below w.heap.size w w' ∧ DeepV T w' F (.l 36) x (.l (gosL a)) ∧ ∀ b, F b → w.heap.size ≤ b := by
  refine (Ab.po7.ok rfl w (fun _ => False) [argS 36 a] [u] (fun b h => h.elim) (ArgsR.one ⟨_, rfl, R0.on true⟩) (hL.on true) ⟨a, ha, rfl⟩).mono ?_
  rintro e w' ⟨x, bk, rfl, hb, hr, hlt, -⟩
  obtain ⟨c, hc, hv⟩ := hr
  obtain rfl : CV.sl true 36 (gosL a) = c := by simpa using hc
  exact ⟨x, bk 0, rfl, hb, DeepV.off (b := true) (OwnF.toDeep (X := fun b => False ∨ ∃ j, bk j b) hv rfl), fun b h => (hlt 0 b h).1⟩
theorem gsS {u : Value} {a : List (List D)} (R0 : RdR T w (fun _ => False) (.l 36) u (.l a)) (ha : a.length + wRows a ≤ 1048576) :
    Calls Tryz.prog 5 #[u] w fun e w' => ∃ x : Value, e = .returned x ∧ Below w.heap.size w w' ∧ RdR T w' (fun _ => False) (.l 36) x (.l (gosL a)) := by
  refine (Ab.xk5.ok rfl w (fun _ => False) [argS 36 a] [u] (fun b h => h.elim) (ArgsR.one ⟨_, rfl, R0⟩) hL ⟨a, ha, rfl⟩).mono ?_
  rintro e w' ⟨x, bk, rfl, hb, hr, hlt, -⟩
  obtain ⟨c, hc, hv⟩ := hr
  obtain rfl : CV.sl false 36 (gosL a) = c := by simpa using hc
  exact ⟨x, rfl, hb, RdR.move (hv : RdR T w' _ _ x _) (Keeps.refl _ _) (fun _ _ h => h.elim)⟩
theorem eqT {u v : Value} {r : List (List D)} (R0 : RdR T w (fun _ => False) (.l 36) u (.l r)) (R1 : RdR T w (fun _ => False) (.l 36) v (.l r)) :
    Calls Tryz.prog 8 #[u, v] w fun e w' => e = .returned (.bool true) ∧ Below w.heap.size w w' := by
  refine (Ab.ok8.ok rfl w (fun _ => False) [argS 36 r, argS 36 r] [u, v] (fun b h => h.elim) (ArgsR.cons ⟨_, rfl, R0⟩ (ArgsR.one ⟨_, rfl, R1⟩)) hL ⟨r, r, rfl⟩).mono ?_
  rintro e w' ⟨x, bk, rfl, hb, hr, -, -⟩
  refine ⟨?_, hb⟩
  rw [one_bool hr]
  exact congrArg (fun z => Ending.returned (Value.bool z)) (decide_eq_true rfl)
theorem hdT (mt : Int → ByteArray) (hmt : FOk Tryz.prog T 41 (spMT mt)) {u : Value} {r : List (List D)} (wf : WfD T (.l 36) (.l r)) (hb : 1 + (cRows r : Int) ≤ 4611686018427387904) (R : RdR T w (fun _ => False) (.l 36) u (.l (mkRows mt 1 r))) :
    Calls Tryz.prog 10 #[u, .int .i64 1] w fun e w' => e = .returned (.int .i64 (1 + cRows r)) ∧ Below w.heap.size w w' := by
  refine ((Ab.hd10 mt hmt).ok rfl w (fun _ => False) [argS 36 (mkRows mt 1 r), .val false [.i .i64 1]] [u, _] (fun b h => h.elim) (ArgsR.cons ⟨_, rfl, R⟩ (ArgsR.one ⟨_, rfl, rfl, inK_pos (by decide) (by decide)⟩)) hL ⟨r, 1, by decide, hb, wf, rfl⟩).mono ?_
  rintro e w' ⟨x, bk, rfl, hb, hr, -, -⟩
  refine ⟨?_, hb⟩
  rw [one_int hr]
  exact congrArg (fun z : Nat => Ending.returned (Value.int .i64 (1 + (z : Int)))) (cRows_mk _ _)
end
end Go.Proofs.YtaecbmjmcpdgdaaGreat
namespace Go.Proofs.YtaecbmjmcpdgdaaGreat.Ab
open Go.RowKit
set_option linter.unusedVariables false
set_option maxRecDepth 100000
theorem tab_short : ∀ (e : TypeId) (ty : Ty), T e = some ty → ty.cts.length ≤ 64 := by
  intro e ty h
  have hp : ∀ p ∈ tab, p.2.cts.length ≤ 64 := by decide
  have h' : (tab.find? (·.1 == e)).map (·.2) = some ty := h
  cases hf : tab.find? (·.1 == e) with
  | none => rw [hf] at h'; cases h'
  | some p =>
    rw [hf] at h'
    obtain rfl := Option.some.inj h'
    exact hp p (List.mem_of_find?_eq_some hf)
theorem cRow_le : ∀ (r : List D), (∀ d ∈ r, cD d ≤ 64 * wD d + 1) → cRow r ≤ 64 * wRow r + r.length
  | [], _ => Nat.le_refl _
  | d :: r, h => by
    have h1 := h d (List.mem_cons_self ..)
    have h2 := cRow_le r fun x hx => h x (List.mem_cons_of_mem _ hx)
    simp only [cRow, wRow, List.length_cons]
    omega
theorem cRows_wle : ∀ (l : List (List D)), (∀ r ∈ l, r.length ≤ 64 ∧ ∀ d ∈ r, cD d ≤ 64 * wD d + 1) → cRows l ≤ 64 * (l.length + wRows l)
  | [], _ => Nat.zero_le _
  | r :: l, h => by
    obtain ⟨h0, h1⟩ := h r (List.mem_cons_self ..)
    have h2 := cRow_le r h1
    have h3 := cRows_wle l fun x hx => h x (List.mem_cons_of_mem _ hx)
    simp only [cRows, wRows, List.length_cons]
    omega
theorem cD_le {ct : CT} {d : D} (h : WfD T ct d) : cD d ≤ 64 * wD d + 1 := by
  induction h with
  | int k n hn => simp [cD]
  | bool x => simp [cD]
  | str x hx => simp [cD]
  | nil e => simp [cD, cRows]
  | sl e ty rows h1 h2 h3 h4 ih =>
    have h := cRows_wle rows fun r hr => by
      obtain ⟨k, hk, rfl⟩ := List.getElem_of_mem hr
      have hl := h3 k _ (List.getElem?_eq_getElem hk)
      have hs := tab_short e ty h1
      refine ⟨by omega, fun d hd => ?_⟩
      obtain ⟨j, hj, rfl⟩ := List.getElem_of_mem hd
      exact ih k j _ _ _ (List.getElem?_eq_getElem hk) (List.getElem?_eq_getElem (by omega)) (List.getElem?_eq_getElem hj)
    simp only [cD, wD]
    omega
theorem cRows_wf {e : TypeId} {a : List (List D)} (h : WfD T (.l e) (.l a)) (hs : a.length + wRows a ≤ 1048576) : cRows a ≤ 67108865 := by
  have := cD_le h
  simp only [cD, wD] at this
  omega
theorem gosO_size (l ops : List (List D)) : (gosO l ops).length + wRows (gosO l ops) ≤ l.length * (1 + (ops.length + wRows ops)) := by
  induction l with
  | nil => exact Nat.zero_le _
  | cons r l ih =>
    have e : gosO (r :: l) ops = [.i (rI r), .l ops] :: gosO l ops := rfl
    rw [e]
    simp only [wRows, wRow, wD, List.length_cons]
    rw [Nat.succ_mul]
    omega
theorem gosL_size {l : List (List D)} (h : l.length + wRows l ≤ 1048576) : (gosL l).length + wRows (gosL l) ≤ 2199023255552 := by
  unfold gosL gosA
  split
  · have h1 := gosO_size (l.take l.length) (opsL l l.length)
    have h2 := opsL_le (Nat.le_refl l.length) h
    rw [List.take_length] at h1 ⊢
    have h3 : l.length * (1 + ((opsL l l.length).length + wRows (opsL l l.length))) ≤ 1048576 * 1048577 := Nat.mul_le_mul (by omega) (by omega)
    omega
  · rw [List.take_length]; omega
theorem cRows_gos {e : TypeId} {l : List (List D)} (hw : WfD T (.l e) (.l (gosL l))) (h : l.length + wRows l ≤ 1048576) : cRows (gosL l) ≤ 140737488355392 := by
  have h1 := cD_le hw
  have h2 := gosL_size h
  simp only [cD, wD] at h1
  omega
end Go.Proofs.YtaecbmjmcpdgdaaGreat.Ab
namespace Go.Proofs.YtaecbmjmcpdgdaaGreat
open Go.RowKit Ab
set_option linter.unusedVariables false
set_option linter.unusedSimpArgs false
set_option maxRecDepth 100000
set_option maxHeartbeats 8000000
theorem glFar {W w : World} {F : Nat → Prop} (h : GlR T W (fun _ => False)) (hb : Below W.heap.size W w) (hF : ∀ b, F b → W.heap.size ≤ b) : GlR T w F := h.move ⟨hb.size, fun b hb' _ => hb.block b hb'⟩ fun b hb' hi => Nat.not_le_of_lt hb' (hF b hi)
theorem DeepV.mk {T : Tab} {w w' : World} {F G : Nat → Prop} {e : TypeId} {v v' : Value} {rows : List (List D)} {ct : CT} {d : D} (h : DeepV T w G ct v' d) (hm : MkEnd T w w' F e v rows) (hd : ∀ b, G b → ¬ F b) : DeepV T w' G ct v' d := h.move fun b hb => hm.block b (h.lt b hb) (hd b hb)
theorem lawW (mt : Int → ByteArray) (hmt : FOk Tryz.prog T 41 (spMT mt)) (W : World) (hL : GlR T W (fun _ => False)) {v0 : Value} {a : List (List D)} (R0 : RdR T W (fun _ => False) (.l 33) v0 (.l a)) :
    Calls Tryz.prog 3 #[v0] W fun e W' => e = .returned (.bool true) ∧ Below W.heap.size W W' := by
  obtain ⟨A0, n0, c0, rfl⟩ := R0.slice
  have HL := Lib.hid hL
  have HR0 := Lib.hid R0
  clear hL R0
  have H0 := Lib.hid (Below.refl W.heap.size W)
  go_enter Tryz.func3, Tryz.ntmps3
  go_wp2_with fail
  refine (szT HL.out HR0.out (l := 1048576) (by decide) (by decide)).mono ?_; rintro e w1 ⟨rfl, h1⟩
  have H1 := Lib.hid h1
  clear h1
  obtain ⟨na, hna⟩ : ∃ na, a.length + wRows a = na := ⟨_, rfl⟩
  rw [hna]
  by_cases hA : 1048576 < na
  · rw [szR_lt (show (1048576 : Int) < (na : Int) by omega)]
    go_wp2
    go_ret
    exact ⟨rfl, H1.out⟩
  rw [szR_ge (show (na : Int) ≤ 1048576 by omega)]
  have hl1 : ¬ (1048576 - (na : Int) < 0) := by omega
  obtain ⟨la, hla⟩ : ∃ la, 1048576 - (na : Int) = la := ⟨_, rfl⟩
  rw [hla] at hl1 ⊢
  have SA : a.length + wRows a ≤ 1048576 := by omega
  have HSA := Lib.hid SA
  clear SA hna
  go_wp2_with fail
  refine (toT (HL.out.bel H1.out) (HR0.out.belV H1.out) HSA.out).mono ?_; rintro e w2 ⟨t2, G2, rfl, h2, d2, g2⟩
  obtain ⟨X2, y2, z2, rfl⟩ := (d2.shared (X' := fun _ => False) fun _ _ hx => hx).slice
  have DA := Lib.hid d2
  have H2 := Lib.hid (H1.out.trans (h2.mono H1.out.size))
  clear d2 g2 h2
  go_wp2_with fail
  refine (gsS (HL.out.bel H2.out) (DA.out.shared fun _ _ hx => hx) HSA.out).mono ?_; rintro e w3 ⟨t3, rfl, h3, s3⟩
  obtain ⟨X3, y3, z3, rfl⟩ := s3.slice
  have S3 := Lib.hid s3
  have H3 := Lib.hid (H2.out.trans (h3.mono H2.out.size))
  clear s3 h3
  go_wp2_with fail
  refine (toT (HL.out.bel H3.out) (HR0.out.belV H3.out) HSA.out).mono ?_; rintro e w4 ⟨t4, F0, rfl, h4, d4, g4⟩
  obtain ⟨X4, y4, z4, rfl⟩ := (d4.shared (X' := fun _ => False) fun _ _ hx => hx).slice
  have P4 := Lib.hid d4
  have L0 := Lib.hid g4
  have C4 := Lib.hid h4
  have H4 := Lib.hid (H3.out.trans (h4.mono H3.out.size))
  clear d4 g4 h4
  go_wp2_with fail
  refine (gsI (HL.out.bel H4.out) (P4.out.shared fun _ _ hx => hx) HSA.out).mono ?_; rintro e w5 ⟨t5, F2, rfl, h5, d5, g5⟩
  obtain ⟨X5, y5, z5, rfl⟩ := (d5.shared (X' := fun _ => False) fun _ _ hx => hx).slice
  have V5 := Lib.hid d5
  have L2 := Lib.hid g5
  have P5 := Lib.hid (P4.out.belV h5)
  have C5 := Lib.hid (C4.out.trans (h5.mono C4.out.size))
  have H5 := Lib.hid (H4.out.trans (h5.mono H4.out.size))
  clear d5 g5 h5
  go_wp2_with fail
  refine (eqT (HL.out.bel H5.out) (V5.out.shared fun _ _ hx => hx) (S3.out.belV C5.out)).mono ?_; rintro e w6 ⟨rfl, h6⟩
  have P6 := Lib.hid (P5.out.belV h6)
  have V6 := Lib.hid (V5.out.belV h6)
  have C6 := Lib.hid (C5.out.trans (h6.mono C5.out.size))
  have H6 := Lib.hid (H5.out.trans (h6.mono H5.out.size))
  clear h6
  go_wp2_with fail
  refine (toT (HL.out.bel H6.out) (HR0.out.belV H6.out) HSA.out).mono ?_; rintro e w7 ⟨t7, G7, rfl, h7, d7, g7⟩
  obtain ⟨X7, y7, z7, rfl⟩ := (d7.shared (X' := fun _ => False) fun _ _ hx => hx).slice
  have E7 := Lib.hid d7
  have P7 := Lib.hid (P6.out.belV h7)
  have V7 := Lib.hid (V6.out.belV h7)
  have C7 := Lib.hid (C6.out.trans (h7.mono C6.out.size))
  have H7 := Lib.hid (H6.out.trans (h7.mono H6.out.size))
  clear h7
  clear d7 g7
  go_wp2_with fail
  refine (eqT (HL.out.bel H7.out) (P7.out.shared fun _ _ hx => hx) (E7.out.shared fun _ _ hx => hx)).mono ?_; rintro e w8 ⟨rfl, h8⟩
  have P8 := Lib.hid (P7.out.belV h8)
  have V8 := Lib.hid (V7.out.belV h8)
  have C8 := Lib.hid (C7.out.trans (h8.mono C7.out.size))
  have H8 := Lib.hid (H7.out.trans (h8.mono H7.out.size))
  clear h8
  have HWA := Lib.hid (cRows_wf P8.out.wf HSA.out)
  have HWR := Lib.hid (cRows_gos V8.out.wf HSA.out)
  have f20 : ∀ x, F2 x → ¬ F0 x := fun x h1 h0 => Nat.not_le_of_lt (P4.out.lt x h0) (L2.out x h1)
  have H20 := Lib.hid f20
  clear f20
  go_wp2_with fail
  refine (mk_9 mt hmt (wD (.l a) + 1) w8 F0 _ a (1) (by omega) (by have := HWA.out; have := HWR.out; omega) (Nat.lt_succ_self _) (glFar HL.out H8.out fun x hx => Nat.le_trans H3.out.size (L0.out x hx)) P8.out).mono ?_; rintro e w9 ⟨rfl, m9⟩
  have P9 := Lib.hid m9.deep
  have V9 := Lib.hid (DeepV.mk V8.out m9 H20.out)
  have hk9 : ¬ (1 + (cRows a : Int) < 0) := by omega
  have b9 := m9.belowV (B := w3.heap.size) (fun x hx => L0.out x hx) C8.out.size
  have C9 := Lib.hid (C8.out.trans b9)
  have H9 := Lib.hid (H8.out.trans (b9.mono H3.out.size))
  clear b9 m9
  go_wp2_with fail
  refine (eqT (HL.out.bel H9.out) (V9.out.shared fun _ _ hx => hx) (S3.out.belV C9.out)).mono ?_; rintro e w10 ⟨rfl, h10⟩
  have V10 := Lib.hid (V9.out.belV h10)
  have C10 := Lib.hid (C9.out.trans (h10.mono C9.out.size))
  have H10 := Lib.hid (H9.out.trans (h10.mono H9.out.size))
  clear h10
  go_wp2_with fail
  refine (mk_9 mt hmt (wD (.l (gosL a)) + 1) w10 F2 _ (gosL a) (1) (by omega) (by have := HWA.out; have := HWR.out; omega) (Nat.lt_succ_self _) (glFar HL.out H10.out fun x hx => Nat.le_trans H3.out.size (Nat.le_trans C4.out.size (L2.out x hx))) V10.out).mono ?_; rintro e w11 ⟨rfl, m11⟩
  have V11 := Lib.hid m11.deep
  have b11 := m11.belowV (B := w3.heap.size) (fun x hx => Nat.le_trans C4.out.size (L2.out x hx)) C10.out.size
  have C11 := Lib.hid (C10.out.trans b11)
  have H11 := Lib.hid (H10.out.trans (b11.mono H3.out.size))
  clear b11 m11
  go_wp2_with fail
  have hcr : 1 + (cRows (gosL a) : Int) ≤ 4611686018427387904 := by have := HWR.out; omega
  have hc0 : ¬ (1 + (cRows (gosL a) : Int) < 0) := by omega
  refine (hdT (HL.out.bel H11.out) mt hmt V8.out.wf hcr (V11.out.shared fun _ _ hx => hx)).mono ?_; rintro e w12 ⟨rfl, h12⟩
  have V12 := Lib.hid (V11.out.belV h12)
  have C12 := Lib.hid (C11.out.trans (h12.mono C11.out.size))
  have H12 := Lib.hid (H11.out.trans (h12.mono H11.out.size))
  clear h12
  go_wp2_with fail
  refine (toT (HL.out.bel H12.out) (HR0.out.belV H12.out) HSA.out).mono ?_; rintro e w13 ⟨t13, G13, rfl, h13, d13, g13⟩
  obtain ⟨X13, y13, z13, rfl⟩ := (d13.shared (X' := fun _ => False) fun _ _ hx => hx).slice
  have E13 := Lib.hid d13
  have V13 := Lib.hid (V12.out.belV h13)
  have C13 := Lib.hid (C12.out.trans (h13.mono C12.out.size))
  have H13 := Lib.hid (H12.out.trans (h13.mono H12.out.size))
  clear h13
  clear d13 g13
  go_wp2_with fail
  refine (gsI (HL.out.bel H13.out) (E13.out.shared fun _ _ hx => hx) HSA.out).mono ?_; rintro e w14 ⟨t14, G14, rfl, h14, d14, g14⟩
  obtain ⟨X14, y14, z14, rfl⟩ := (d14.shared (X' := fun _ => False) fun _ _ hx => hx).slice
  have E14 := Lib.hid d14
  have V14 := Lib.hid (V13.out.belV h14)
  have C14 := Lib.hid (C13.out.trans (h14.mono C13.out.size))
  have H14 := Lib.hid (H13.out.trans (h14.mono H13.out.size))
  clear h14
  clear d14 g14
  go_wp2_with fail
  refine (eqT (HL.out.bel H14.out) (E14.out.shared fun _ _ hx => hx) (S3.out.belV C14.out)).mono ?_; rintro e w15 ⟨rfl, h15⟩
  have V15 := Lib.hid (V14.out.belV h15)
  have C15 := Lib.hid (C14.out.trans (h15.mono C14.out.size))
  have H15 := Lib.hid (H14.out.trans (h15.mono H14.out.size))
  clear h15
  go_wp2_with fail
  refine (hdT (HL.out.bel H15.out) mt hmt V8.out.wf hcr (V15.out.shared fun _ _ hx => hx)).mono ?_; rintro e w16 ⟨rfl, h16⟩
  have H16 := Lib.hid (H15.out.trans (h16.mono H15.out.size))
  go_wp2
  go_ret
  exact ⟨rfl, H16.out⟩
end Go.Proofs.YtaecbmjmcpdgdaaGreat
