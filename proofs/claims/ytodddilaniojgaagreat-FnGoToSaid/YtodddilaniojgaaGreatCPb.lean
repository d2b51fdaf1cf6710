/- Plain facts: the checksum of a list of bytes, and the bit operations at numbers below 2^32. No program in sight. Descriptions of functions on data: comparisons, weights, copies. No program in sight but for the table of types. Small functions of ranges, exactly. -/
import Derived.Laws.Bits64
import Derived.Laws.BitsAll
import Derived.Laws.BitsAllLaws
import Derived.Test.YtodddilaniojgaaGreatCTa
namespace Go.Proofs.YtodddilaniojgaaGreat
theorem wrap_i64_in {n : Int} (h0 : -9223372036854775808 ≤ n) (h1 : n < 9223372036854775808) : IntKind.i64.wrap n = n := by
  simp only [IntKind.wrap, IntKind.bits, IntKind.signed]; simp; omega
end Go.Proofs.YtodddilaniojgaaGreat
namespace Go.Proofs.YtodddilaniojgaaGreat.Ab
open Go.RowKit
set_option linter.unusedVariables false
noncomputable instance : DecidableEq D := fun a b => Classical.propDecidable (a = b)
abbrev argS (e : TypeId) (rows : List (List D)) : SV := .val false [.sl false e rows]
def rowC (cts : List CT) (row : List D) : List CV := cts.zipIdx.map fun (ct, j) => ofD ct (row.getD j default)
abbrev argG (cts : List CT) (row : List D) : SV := .val true (rowC cts row)
def CV.d : CV → D
  | .i _ n => .i n
  | .b x => .b x
  | .s x => .s x
  | .sl _ _ rows => .l rows
  | _ => .i 0
def csD (cs : List CV) : List D := cs.map CV.d
def WfRow (T : Tab) (cts : List CT) (row : List D) : Prop := row.length = cts.length ∧ ∀ (j : Nat) ct d, cts[j]? = some ct → row[j]? = some d → WfD T ct d
theorem WfD.row {e : TypeId} {te : Ty} {rows : List (List D)} (h : WfD T (.l e) (.l rows)) (he : T e = some te) {k : Nat} (hk : k < rows.length) : WfRow T te.cts (rows.getD k []) := by
  have hr : rows[k]? = some (rows.getD k []) := by simp [List.getD_eq_getElem?_getD, List.getElem?_eq_getElem hk]
  cases h with
  | nil => simp at hk
  | sl _ ty _ h1 h2 h3 h4 =>
    rw [he] at h1
    obtain rfl := Option.some.inj h1
    exact ⟨h3 k _ hr, fun j ct d a b => h4 k j ct d _ hr a b⟩
theorem WfD.len {e : TypeId} {rows : List (List D)} (h : WfD T (.l e) (.l rows)) : rows.length ≤ maxLen := by
  cases h with
  | nil => exact Nat.zero_le _
  | sl _ ty _ h1 h2 h3 h4 => exact h2
theorem WfD.str' {d : D} (h : WfD T .s d) : ∃ x, d = .s x ∧ x.size ≤ maxLen := by cases h with | str x h => exact ⟨x, rfl, h⟩
theorem WfD.sl' {e : TypeId} {d : D} (h : WfD T (.l e) d) : ∃ rows, d = .l rows ∧ WfD T (.l e) (.l rows) := by
  cases h with
  | nil => exact ⟨[], rfl, .nil e⟩
  | sl _ ty rows h1 h2 h3 h4 => exact ⟨rows, rfl, .sl e ty rows h1 h2 h3 h4⟩
theorem wrap_next {i : Int} {n : Nat} (h0 : 0 ≤ i) (hi : i < n) (hn : n ≤ maxLen) : IntKind.i64.wrap (i + 1) = i + 1 := by
  simp only [maxLen] at hn
  rw [IntKind.wrap_i64]; omega
theorem WfRow.rows {cts : List CT} {r : List D} (h : WfRow T cts r) {j : Nat} {e : TypeId} (hj : cts[j]? = some (.l e)) : WfD T (.l e) (.l (r.getD j default).rows) := by
  have hl : j < r.length := by rw [h.1]; exact (List.getElem?_eq_some_iff.1 hj).1
  have e1 : r[j]? = some (r.getD j default) := by simp [List.getD_eq_getElem?_getD, List.getElem?_eq_getElem hl]
  obtain ⟨rows, h1, h2⟩ := (h.2 j _ _ hj e1).sl'
  rw [h1]
  exact h2
def sub (r : List D) (k n : Nat) : List D := (List.range n).map fun j => r.getD (k + j) default
theorem WfRow.sub {cts : List CT} {r : List D} (h : WfRow T cts r) (k n : Nat) (hk : k + n ≤ cts.length) : WfRow T ((cts.drop k).take n) (sub r k n) := by
  refine ⟨by simp [Ab.sub]; omega, fun j ct d h1 h2 => ?_⟩
  rw [List.getElem?_take, List.getElem?_drop] at h1
  split at h1
  · rename_i hj
    have e : (Ab.sub r k n)[j]? = some (r.getD (k + j) default) := by simp [Ab.sub, hj]
    rw [e] at h2
    have hl : k + j < r.length := by rw [h.1]; omega
    refine h.2 (k + j) ct d h1 ?_
    rw [← Option.some.inj h2]
    simp [List.getD_eq_getElem?_getD, List.getElem?_eq_getElem hl]
  · cases h1
theorem d_ofD {ct : CT} {d : D} (h : WfD T ct d) : (ofD ct d).d = d := by cases h <;> rfl
theorem csD_rowC {cts : List CT} {r : List D} (h : WfRow T cts r) : csD (rowC cts r) = r := by
  refine List.ext_getElem (by simp [csD, rowC, h.1]) fun j h1 h2 => ?_
  have hj : j < cts.length := by rw [← h.1]; exact h2
  have := d_ofD (h.2 j cts[j] r[j] (List.getElem?_eq_getElem hj) (List.getElem?_eq_getElem h2))
  simp [csD, rowC, List.getD_eq_getElem?_getD, List.getElem?_eq_getElem h2, this]
def envL : List (FuncId × FSpec) → FuncId → Option FSpec
  | [], _ => none
  | (g, s) :: l, f => if f = g then some s else envL l f
theorem envL_nil {P : Program} : EnvOk P T (envL []) := fun f s h => by cases h
theorem envL_cons {P : Program} {g : FuncId} {s : FSpec} {l : List (FuncId × FSpec)} (h : FOk P T g s) (hl : EnvOk P T (envL l)) : EnvOk P T (envL ((g, s) :: l)) := fun f s' hf => by
  simp only [envL] at hf
  split at hf
  · rename_i e; subst e; obtain rfl := Option.some.inj hf; exact h
  · exact hl f s' hf
theorem arg0 {ag : Bool} {cs : List CV} {l : List SV} (h : ∀ a ∈ SV.val ag cs :: l, WfSV T a) {c : CV} (h2 : c ∈ cs) : WfC T c := h _ (List.mem_cons_self ..) c h2
theorem arg1 {x : SV} {ag : Bool} {cs : List CV} {l : List SV} (h : ∀ a ∈ x :: SV.val ag cs :: l, WfSV T a) {c : CV} (h2 : c ∈ cs) : WfC T c := h _ (List.mem_cons_of_mem _ (List.mem_cons_self ..)) c h2
end Go.Proofs.YtodddilaniojgaaGreat.Ab
namespace Go.Proofs.YtodddilaniojgaaGreat.Ab
open Go.RowKit
set_option linter.unusedVariables false
set_option linter.unusedSimpArgs false
set_option maxRecDepth 100000
def inR (x lo hi : Int) : Bool := decide (lo ≤ x) && decide (x ≤ hi)
def spIn : FSpec where
  pre args := ∃ x lo hi : Int, args = [.val false [.i .i64 x], .val false [.i .i64 lo], .val false [.i .i64 hi]]
  res args := match args with
    | [.val _ [.i _ x], .val _ [.i _ lo], .val _ [.i _ hi]] => .val false [.b (inR x lo hi)]
    | _ => .none
theorem resB {x y : Bool} (h : x = y) : [CV.b x] = [CV.b y] := by rw [h]
end Go.Proofs.YtodddilaniojgaaGreat.Ab
