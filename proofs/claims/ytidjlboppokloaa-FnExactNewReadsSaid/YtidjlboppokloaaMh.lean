/- What is held after marks: descriptions of the functions that look. No program in sight. -/
import Derived.Test.YtidjlboppokloaaMp
import Derived.Test.YtidjlboppokloaaEd
namespace Go.Proofs.Ytidjlboppokloaa.Ab
open Go.RowKit
set_option linter.unusedVariables false
variable {mt : Int → ByteArray}
def spHdn (mt : Int → ByteArray) (e : TypeId) (n : Nat) : FSpec where
  pre args := ∃ (rows : List (List D)) (k : Int), 1 ≤ k ∧ k + cRows rows ≤ 4611686018427387904 ∧ WfD T (.l e) (.l rows) ∧ wD (.l rows) < n ∧ args = [argS e (mkRows mt k rows), .val false [.i .i64 k]]
  res args := match args with
    | [.val _ [.sl _ _ rows], .val _ [.i _ k]] => .val false [.i .i64 (k + cRows rows)]
    | _ => .none
def spHd (mt : Int → ByteArray) (e : TypeId) : FSpec where
  pre args := ∃ (rows : List (List D)) (k : Int), 1 ≤ k ∧ k + cRows rows ≤ 4611686018427387904 ∧ WfD T (.l e) (.l rows) ∧ args = [argS e (mkRows mt k rows), .val false [.i .i64 k]]
  res args := match args with
    | [.val _ [.sl _ _ rows], .val _ [.i _ k]] => .val false [.i .i64 (k + cRows rows)]
    | _ => .none
theorem FOk.held {P : Program} {f : FuncId} {e : TypeId} (h : ∀ n, FOk P T f (spHdn mt e n)) : FOk P T f (spHd mt e) :=
  FOk.lift (s := fun n => spHdn mt e n) h (fun args ⟨rows, k, h1, h2, h3, h4⟩ => ⟨wD (.l rows) + 1, rows, k, h1, h2, h3, Nat.lt_succ_self _, h4⟩) (fun n => rfl)
theorem WfD.at_ {e : TypeId} {ty : Ty} {rows : List (List D)} (h : WfD T (.l e) (.l rows)) (he : T e = some ty) {k : Nat} (hk : k < rows.length) : WfRow T ty.cts (rows.getD k []) := by
  have hrow : rows[k]? = some (rows.getD k []) := by simp [List.getD_eq_getElem?_getD, List.getElem?_eq_getElem hk]
  cases h with
  | nil => exact absurd hk (Nat.not_lt_zero _)
  | sl e ty' rows h1 h2 h3 h4 =>
    obtain rfl := Option.some.inj (h1.symm.trans he)
    exact ⟨h3 k _ hrow, fun j ct d a b => h4 k j ct d _ hrow a b⟩
theorem WfD.short {e : TypeId} {rows : List (List D)} (h : WfD T (.l e) (.l rows)) : rows.length ≤ maxLen := by
  cases h with
  | nil => exact Nat.zero_le _
  | sl e ty' rows h1 h2 h3 h4 => exact h2
theorem WfRow.slW {e : TypeId} {cts : List CT} {r : List D} (h : WfRow T (.l e :: cts) r) : ∃ x r', r = .l x :: r' ∧ WfD T (.l e) (.l x) ∧ WfRow T cts r' := by
  obtain ⟨d, r', rfl, hd, hr⟩ := h.cut
  cases hd with
  | nil => exact ⟨_, _, rfl, .nil e, hr⟩
  | sl _ ty rows a b c d => exact ⟨_, _, rfl, .sl e ty rows a b c d, hr⟩
theorem wrapJ {i n : Nat} (hi : i < n) (hn : n ≤ maxLen) : IntKind.i64.wrap ((i : Int) + 1) = ((i + 1 : Nat) : Int) := by
  simp only [maxLen] at hn
  rw [IntKind.wrap_i64]; omega
theorem snapRZ2 {f : Int → Int → Snap} {r r' a a' : Int} (h : r = r') (h2 : a = a') : f r a = f r' a' := by rw [h, h2]
theorem hdS {a : ByteArray} {p : Prop} (h : (!(a.toList == a.toList)) = true) : p := by simp at h
theorem hdZ {a b : Int} {p : Prop} (e : a = b) (h : (a != b) = true) : p := by subst e; simp at h
end Go.Proofs.Ytidjlboppokloaa.Ab
