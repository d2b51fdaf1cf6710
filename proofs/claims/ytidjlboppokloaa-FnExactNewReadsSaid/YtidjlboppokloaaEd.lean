/- Descriptions of functions on data: comparisons, weights, copies. No program in sight but for the table of types. -/
import Derived.Test.YtidjlboppokloaaTab
namespace Go.Proofs.Ytidjlboppokloaa.Ab
open Go.RowKit
set_option linter.unusedVariables false

noncomputable instance : DecidableEq D := fun a b => Classical.propDecidable (a = b)
/-- A slice, a structure, as arguments. -/
abbrev argS (e : TypeId) (rows : List (List D)) : SV := .val false [.sl false e rows]
def rowC (cts : List CT) (row : List D) : List CV := cts.zipIdx.map fun (ct, j) => ofD ct (row.getD j default)
abbrev argG (cts : List CT) (row : List D) : SV := .val true (rowC cts row)
def CV.d : CV → D
  | .i _ n => .i n
  | .b x => .b x
  | .s x => .s x
  | .sl _ _ rows => .l rows
  | _ => .i 0
def csD (cs : List CV) : List D := cs.map CV.d
/-- A row whose cells are of their kinds. -/
def WfRow (T : Tab) (cts : List CT) (row : List D) : Prop := row.length = cts.length ∧ ∀ (j : Nat) ct d, cts[j]? = some ct → row[j]? = some d → WfD T ct d
theorem WfD.row {e : TypeId} {te : Ty} {rows : List (List D)} (h : WfD T (.l e) (.l rows)) (he : T e = some te) {k : Nat} (hk : k < rows.length) : WfRow T te.cts (rows.getD k []) := by
  have hr : rows[k]? = some (rows.getD k []) := by simp [List.getD_eq_getElem?_getD, List.getElem?_eq_getElem hk]
  cases h with
  | nil => simp at hk
  | sl _ ty _ h1 h2 h3 h4 =>
    rw [he] at h1
    obtain rfl := Option.some.inj h1
    exact ⟨h3 k _ hr, fun j ct d a b => h4 k j ct d _ hr a b⟩
theorem WfD.len {e : TypeId} {rows : List (List D)} (h : WfD T (.l e) (.l rows)) : rows.length ≤ maxLen := by
  cases h with
  | nil => exact Nat.zero_le _
  | sl _ ty _ h1 h2 h3 h4 => exact h2
theorem WfD.int' {k : IntKind} {d : D} (h : WfD T (.i k) d) : ∃ n, d = .i n ∧ inK k n := by cases h with | int _ n h => exact ⟨n, rfl, h⟩
theorem WfD.bool' {d : D} (h : WfD T .b d) : ∃ x, d = .b x := by cases h with | bool x => exact ⟨x, rfl⟩
theorem WfD.str' {d : D} (h : WfD T .s d) : ∃ x, d = .s x ∧ x.size ≤ maxLen := by cases h with | str x h => exact ⟨x, rfl, h⟩
theorem WfD.sl' {e : TypeId} {d : D} (h : WfD T (.l e) d) : ∃ rows, d = .l rows ∧ WfD T (.l e) (.l rows) := by
  cases h with
  | nil => exact ⟨[], rfl, .nil e⟩
  | sl _ ty rows h1 h2 h3 h4 => exact ⟨rows, rfl, .sl e ty rows h1 h2 h3 h4⟩
/-- A row, cell by cell. -/
theorem WfRow.nil' {row : List D} (h : WfRow T [] row) : row = [] := List.length_eq_zero_iff.1 h.1
theorem WfRow.cons' {ct : CT} {cts : List CT} {row : List D} (h : WfRow T (ct :: cts) row) : ∃ d r, row = d :: r ∧ WfD T ct d ∧ WfRow T cts r := by
  cases row with
  | nil => exact absurd h.1 (by simp)
  | cons d r => exact ⟨d, r, rfl, h.2 0 ct d rfl rfl, by simpa using h.1, fun j ct' d' a b => h.2 (j + 1) ct' d' (by simpa using a) (by simpa using b)⟩

/-- Two slices compared. -/
noncomputable def eqS (e : TypeId) : FSpec where
  pre args := ∃ a b : List (List D), args = [argS e a, argS e b]
  res args := match args with
    | [.val false [.sl _ _ a], .val false [.sl _ _ b]] => .val false [.b (decide (a = b))]
    | _ => .none
/-- Two structures compared. -/
noncomputable def eqG (cts : List CT) : FSpec where
  pre args := ∃ a b : List D, WfRow T cts a ∧ WfRow T cts b ∧ args = [argG cts a, argG cts b]
  res args := match args with
    | [.val true a, .val true b] => .val false [.b (decide (csD a = csD b))]
    | _ => .none
theorem ne_len {a b : List (List D)} (h : ((a.length : Int) != (b.length : Int)) = true) : a ≠ b := by
  intro he; subst he; simp at h
theorem eq_len {a b : List (List D)} (h : ((a.length : Int) != (b.length : Int)) = false) : a.length = b.length := by
  have h' : (a.length : Int) = (b.length : Int) := by simpa using h
  omega
theorem eq_of_takes {a b : List (List D)} {i : Int} (hl : a.length = b.length) (h0 : 0 ≤ i) (hi : i ≤ a.length) (hn : decide (i < (a.length : Int)) = false) (h : a.take i.toNat = b.take i.toNat) : a = b := by
  have hn' : ¬ i < (a.length : Int) := by simpa using hn
  have : i.toNat = a.length := by omega
  rw [this, List.take_length, hl, List.take_length] at h
  exact h
theorem row_at {a : List (List D)} {i : Int} (h0 : 0 ≤ i) (hi : i < a.length) : a[i.toNat]? = some (a.getD i.toNat []) := by
  have : i.toNat < a.length := by omega
  simp [List.getD_eq_getElem?_getD, List.getElem?_eq_getElem this]
theorem takes_next {a b : List (List D)} {i : Int} (h0 : 0 ≤ i) (hi : i < a.length) (hl : a.length = b.length) (h : a.take i.toNat = b.take i.toNat) (he : a.getD i.toNat [] = b.getD i.toNat []) : a.take (i + 1).toNat = b.take (i + 1).toNat := by
  have e : (i + 1).toNat = i.toNat + 1 := by omega
  rw [e, List.take_add_one, List.take_add_one, h, row_at h0 hi, row_at h0 (by omega), he]
theorem takes_stop {a b : List (List D)} {i : Int} (he : a.getD i.toNat [] ≠ b.getD i.toNat []) : a ≠ b := fun h => he (by rw [h])
theorem wrap_next {i : Int} {n : Nat} (h0 : 0 ≤ i) (hi : i < n) (hn : n ≤ maxLen) : IntKind.i64.wrap (i + 1) = i + 1 := by
  simp only [maxLen] at hn
  rw [IntKind.wrap_i64]; omega
theorem arg_wf {ag : Bool} {cs : List CV} {args : List SV} {c : CV} (h : ∀ a ∈ args, WfSV T a) (h1 : SV.val ag cs ∈ args) (h2 : c ∈ cs) : WfC T c := h _ h1 c h2
theorem res_no {P : Prop} [Decidable P] (h : ¬ P) : [CV.b false] = [CV.b (decide P)] := by rw [decide_eq_false h]
theorem res_yes {P : Prop} [Decidable P] (h : P) : [CV.b true] = [CV.b (decide P)] := by rw [decide_eq_true h]
theorem int_row {r : List D} (h : WfRow T [.i .i64] r) : r = [.i (r.getD 0 default).int] := by
  obtain ⟨d, r', rfl, h1, h2⟩ := h.cons'
  obtain rfl := h2.nil'
  obtain ⟨n, rfl, _⟩ := h1.int'
  rfl
theorem res_iff {c : Bool} {P : Prop} [Decidable P] (h : c = true ↔ P) : [CV.b c] = [CV.b (decide P)] := by
  have : c = decide P := by rw [Bool.eq_iff_iff, decide_eq_true_iff]; exact h
  rw [this]
theorem WfRow.rows {cts : List CT} {r : List D} (h : WfRow T cts r) {j : Nat} {e : TypeId} (hj : cts[j]? = some (.l e)) : WfD T (.l e) (.l (r.getD j default).rows) := by
  have hl : j < r.length := by rw [h.1]; exact (List.getElem?_eq_some_iff.1 hj).1
  have e1 : r[j]? = some (r.getD j default) := by simp [List.getD_eq_getElem?_getD, List.getElem?_eq_getElem hl]
  obtain ⟨rows, h1, h2⟩ := (h.2 j _ _ hj e1).sl'
  rw [h1]
  exact h2
/-- The first cells of two structures compared. -/
noncomputable def eqP (cts : List CT) (k : Nat) : FSpec where
  pre args := ∃ a b : List D, WfRow T cts a ∧ WfRow T cts b ∧ args = [argG cts a, argG cts b]
  res args := match args with
    | [.val true a, .val true b] => .val false [.b (decide ((csD a).take k = (csD b).take k))]
    | _ => .none
/-- Two structures compared in full, by a function that calls itself. -/
noncomputable def eqFn (cts : List CT) (n : Nat) : FSpec where
  pre args := ∃ a b : List D, WfRow T cts a ∧ WfRow T cts b ∧ SizeOf.sizeOf a < n ∧ args = [argG cts a, argG cts b, .val false [.b true]]
  res args := match args with
    | [.val true a, .val true b, _] => .val false [.b (decide (csD a = csD b))]
    | _ => .none
noncomputable def eqF (cts : List CT) : FSpec where
  pre args := ∃ a b : List D, WfRow T cts a ∧ WfRow T cts b ∧ args = [argG cts a, argG cts b, .val false [.b true]]
  res := (eqFn cts 0).res
/-- A run of cells of a row, as a row of its own. -/
def sub (r : List D) (k n : Nat) : List D := (List.range n).map fun j => r.getD (k + j) default
theorem WfRow.sub {cts : List CT} {r : List D} (h : WfRow T cts r) (k n : Nat) (hk : k + n ≤ cts.length) : WfRow T ((cts.drop k).take n) (sub r k n) := by
  refine ⟨by simp [Ab.sub]; omega, fun j ct d h1 h2 => ?_⟩
  rw [List.getElem?_take, List.getElem?_drop] at h1
  split at h1
  · rename_i hj
    have e : (Ab.sub r k n)[j]? = some (r.getD (k + j) default) := by simp [Ab.sub, hj]
    rw [e] at h2
    have hl : k + j < r.length := by rw [h.1]; omega
    refine h.2 (k + j) ct d h1 ?_
    rw [← Option.some.inj h2]
    simp [List.getD_eq_getElem?_getD, List.getElem?_eq_getElem hl]
  · cases h1
theorem d_ofD {ct : CT} {d : D} (h : WfD T ct d) : (ofD ct d).d = d := by cases h <;> rfl
theorem csD_rowC {cts : List CT} {r : List D} (h : WfRow T cts r) : csD (rowC cts r) = r := by
  refine List.ext_getElem (by simp [csD, rowC, h.1]) fun j h1 h2 => ?_
  have hj : j < cts.length := by rw [← h.1]; exact h2
  have := d_ofD (h.2 j cts[j] r[j] (List.getElem?_eq_getElem hj) (List.getElem?_eq_getElem h2))
  simp [csD, rowC, List.getD_eq_getElem?_getD, List.getElem?_eq_getElem h2, this]
theorem row_eq {cts : List CT} {r s : List D} (hr : WfRow T cts r) (hs : WfRow T cts s) (h : csD (rowC cts r) = csD (rowC cts s)) : r = s := by rwa [csD_rowC hr, csD_rowC hs] at h
theorem str_inj (x y : ByteArray) : (x.toList = y.toList) = (x = y) := by
  refine propext ⟨fun h => ?_, fun h => by rw [h]⟩
  rw [ByteArray.toList_eq, ByteArray.toList_eq] at h
  exact ByteArray.ext (Array.toList_inj.1 h)
/-- The same, of data below a bound: for functions that call themselves. -/
noncomputable def eqSn (e : TypeId) (n : Nat) : FSpec where
  pre args := ∃ a b : List (List D), SizeOf.sizeOf a < n ∧ args = [argS e a, argS e b]
  res := (eqS e).res
noncomputable def eqGn (cts : List CT) (n : Nat) : FSpec where
  pre args := ∃ a b : List D, WfRow T cts a ∧ WfRow T cts b ∧ SizeOf.sizeOf a < n ∧ args = [argG cts a, argG cts b]
  res := (eqG cts).res
theorem FOk.lift {P : Program} {f : FuncId} {s : Nat → FSpec} {s' : FSpec} (h : ∀ n, FOk P T f (s n)) (hs : ∀ args, s'.pre args → ∃ n, (s n).pre args) (hr : ∀ n, (s n).res = s'.res)
    (hb : ∀ n, (s n).bx = s'.bx := by intro n; rfl) (hu : ∀ n, (s n).upd = s'.upd := by intro n; rfl) (hq : ∀ n, (s n).nb = s'.nb := by intro n; rfl) : FOk P T f s' := by
  refine ⟨(h 0).1, fun hbx hnb w X b ob cs args vals h1 h2 h3 h4 h5 h6 h7 hgl hpre => ?_, fun hbx w X args vals hX hargs hgl hpre => ?_, fun hbx hnb w X args vals hX hargs hpre => ?_⟩
  · obtain ⟨n, hn⟩ := hs _ hpre
    have := (h n).okb ((hb n).trans hbx) ((hq n).trans hnb) w X b ob cs args vals h1 h2 h3 h4 h5 h6 h7 hgl hn
    rwa [hr n, hu n] at this
  · obtain ⟨n, hn⟩ := hs args hpre
    have := (h n).ok ((hb n).trans hbx) w X args vals hX hargs hgl hn
    rwa [hr n] at this
  · obtain ⟨n, hn⟩ := hs args hpre
    have := (h n).okn ((hb n).trans hbx) ((hq n).trans hnb) w X args vals hX hargs hn
    rwa [hu n] at this
theorem size_cell {r : List D} {j : Nat} (h : j < r.length) : SizeOf.sizeOf (r.getD j default).rows < SizeOf.sizeOf r := by
  have h1 : r.getD j default ∈ r := by simp [List.getD_eq_getElem?_getD, List.getElem?_eq_getElem h]
  have h2 := List.sizeOf_lt_of_mem h1
  have h3 : SizeOf.sizeOf (r.getD j default).rows ≤ SizeOf.sizeOf (r.getD j default) := by
    cases r.getD j default <;> simp [D.rows]
  omega
theorem size_row {a : List (List D)} {k : Nat} (h : k < a.length) : SizeOf.sizeOf (a.getD k []) < SizeOf.sizeOf a := by
  have h1 : a.getD k [] ∈ a := by simp [List.getD_eq_getElem?_getD, List.getElem?_eq_getElem h]
  exact List.sizeOf_lt_of_mem h1
/-- What is known of some functions. -/
def envL : List (FuncId × FSpec) → FuncId → Option FSpec
  | [], _ => none
  | (g, s) :: l, f => if f = g then some s else envL l f
theorem envL_nil {P : Program} : EnvOk P T (envL []) := fun f s h => by cases h
theorem envL_cons {P : Program} {g : FuncId} {s : FSpec} {l : List (FuncId × FSpec)} (h : FOk P T g s) (hl : EnvOk P T (envL l)) : EnvOk P T (envL ((g, s) :: l)) := fun f s' hf => by
  simp only [envL] at hf
  split at hf
  · rename_i e; subst e; obtain rfl := Option.some.inj hf; exact h
  · exact hl f s' hf
theorem arg0 {ag : Bool} {cs : List CV} {l : List SV} (h : ∀ a ∈ SV.val ag cs :: l, WfSV T a) {c : CV} (h2 : c ∈ cs) : WfC T c := h _ (List.mem_cons_self ..) c h2
theorem arg1 {x : SV} {ag : Bool} {cs : List CV} {l : List SV} (h : ∀ a ∈ x :: SV.val ag cs :: l, WfSV T a) {c : CV} (h2 : c ∈ cs) : WfC T c := h _ (List.mem_cons_of_mem _ (List.mem_cons_self ..)) c h2
end Go.Proofs.Ytidjlboppokloaa.Ab
