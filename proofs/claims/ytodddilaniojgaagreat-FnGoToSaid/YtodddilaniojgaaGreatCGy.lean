/- Drawn cells: what is known of them, in plain Lean. No program in sight. -/
import Derived.Test.YtodddilaniojgaaGreatCJx
import Derived.Test.YtodddilaniojgaaGreatCGt
namespace Go.Proofs.YtodddilaniojgaaGreat.Ab
open Go.RowKit
set_option linter.unusedVariables false
structure CLs where
  id : Int
  ve : Int
  k : Int
  nm : ByteArray
  cd : ByteArray
  n : Int
instance : Inhabited CLs := ⟨⟨0, 0, 0, ByteArray.empty, ByteArray.empty, 0⟩⟩
def CLs.ok (x : CLs) : Prop := (0 ≤ x.ve ∧ x.ve ≤ 3) ∧ inK .i64 x.k ∧ x.nm.size ≤ 8 ∧ x.cd.size ≤ 700 ∧ inK .i64 x.n
theorem itoaB_11 {n : Int} (h : inR n (-1000000000) 1000000000 = true) : (itoaB n).size ≤ 11 := by
  unfold inR at h
  rw [Bool.and_eq_true, decide_eq_true_eq, decide_eq_true_eq] at h
  show (Lib.itoa n).toArray.size ≤ 11
  rw [List.size_toArray]
  unfold Lib.itoa
  split
  · have := decDigits_le 9 n.natAbs (by omega)
    rw [List.length_cons]; omega
  · have := decDigits_le 9 n.toNat (by omega)
    omega
theorem le120 {s : ByteArray} (h : decide ((s.size : Int) > 120) = false) : s.size ≤ 120 := by have := of_decide_eq_false h; omega
theorem wlen {s : ByteArray} (h : s.size ≤ 5) : 0 ≤ (((strRows (wordsB s)).length : Nat) : Int) ∧ (((strRows (wordsB s)).length : Nat) : Int) ≤ 6 := by
  unfold strRows
  rw [List.length_map]
  have := wordsB_length s
  omega
theorem row_join {r : List (List D)} (h : TR 11 r) : (joinT (strsOf r) ⟨#[32]⟩).size ≤ r.length * 12 := by
  have := joinT_len (sep := ⟨#[32]⟩) h.strs
  simp only [strsOf, List.length_map] at this
  exact this
theorem small_inR {n : Int} (h : 0 ≤ n ∧ n < 256) : inR n (-1000000000) 1000000000 = true := by
  unfold inR
  rw [Bool.and_eq_true, decide_eq_true_eq, decide_eq_true_eq]
  omega
theorem ve3 {rows : List (List D)} {i h : Int} : 0 ≤ IntKind.i64.wrap (1 + belowR rows i h 3) ∧ IntKind.i64.wrap (1 + belowR rows i h 3) ≤ 3 := by
  have := belowR_in (rows := rows) (i := i) (h := h) (n := 3) ⟨by decide, by decide⟩
  rw [wrap_i64_in (by omega) (by omega)]
  omega
section
variable {P : Program} {T : Tab} {f : FuncId}
def AnyY (P : Program) (T : Tab) (f : FuncId) (pre : List SV → Prop) {α : Type} (R : α → SV) (post : List SV → α → Prop) : Prop :=
  ∃ g : List SV → α, FOk P T f { pre := pre, res := fun a => R (g a) } ∧ ∀ a, pre a → post a (g a)
theorem AnyY.of {pre : List SV → Prop} {α : Type} {R : α → SV} {post : List SV → α → Prop} (x0 : List SV → α) (h0 : ∀ a, pre a → post a (x0 a)) (h : ∃ g : List SV → α, FOk P T f { pre := pre, res := fun a => R (g a) } ∧ ∀ a, pre a → (∀ b ∈ a, WfSV T b) → post a (g a)) : AnyY P T f pre R post := by
  classical
  obtain ⟨g, k, q⟩ := h
  refine ⟨fun a => if ∀ b ∈ a, WfSV T b then g a else x0 a, ⟨k.call, (fun hb => by cases hb), fun _ w X args vals a1 a2 a3 hpre => ?_, (fun hb => by cases hb)⟩, fun a ha => ?_⟩
  · have := k.ok rfl w X args vals a1 a2 a3 hpre
    have e : (if ∀ b ∈ args, WfSV T b then g args else x0 args) = g args := if_pos a2.wfs
    simp only
    rw [e]
    exact this
  · show post a (if ∀ b ∈ a, WfSV T b then g a else x0 a)
    split
    · rename_i h; exact q a ha h
    · exact h0 a ha
end
end Go.Proofs.YtodddilaniojgaaGreat.Ab
