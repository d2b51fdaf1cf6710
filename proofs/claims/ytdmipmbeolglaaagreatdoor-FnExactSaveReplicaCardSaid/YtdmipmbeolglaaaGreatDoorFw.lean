/- Writes to stores in plain Lean, and descriptions of the functions that do them. No program in sight. -/
import Derived.Test.YtdmipmbeolglaaaGreatDoorFs
import Derived.Test.YtdmipmbeolglaaaGreatDoorVd
namespace Go.Proofs.YtdmipmbeolglaaaGreatDoor.Ab
open Go.RowKit
set_option linter.unusedVariables false
def stOk (d : ByteArray) (n : Int) : Bool := inR n 0 d.size
def spStV (T : Tab) (st : List CT) : FSpec where
  pre args := ∃ s : List D, WfRow T st s ∧ args = [argG st s]
  res args := match args with
    | [.val _ [.s d, .i _ n]] => .val false [.b (stOk d n)]
    | _ => .none
def spStS (T : Tab) (st : List CT) : FSpec where
  pre args := ∃ s : List D, WfRow T st s ∧ args = [argG st s]
  res args := match args with
    | [.val _ [.s d, .i _ n]] => .val true [.s d, .i .i64 d.size]
    | _ => .none
/-- What a write of t makes of a store. -/
def wrD (t d : ByteArray) (n : Int) : ByteArray := if stOk d n && !decide (t.data.toList = []) then d ++ t else d
def wrB (t d : ByteArray) (n : Int) : Bool := stOk d n && !decide (t.data.toList = [])
def spWr (T : Tab) (st cts : List CT) (Sm : List D → Prop) (g : List D → ByteArray) : FSpec where
  pre args := ∃ s a : List D, WfRow T st s ∧ WfRow T cts a ∧ Sm a ∧ (s.getD 0 default).str.size ≤ 70368744177664 ∧ args = [argG st s, argG cts a]
  res args := match args with
    | [.val _ [.s d, .i _ n], .val _ cs] => .tup [(true, [.s (wrD (g (csD cs)) d n), .i .i64 n]), (false, [.b (wrB (g (csD cs)) d n)])]
    | _ => .none
theorem wr_bad {t d : ByteArray} {n : Int} (h : stOk d n = false) : wrD t d n = d ∧ wrB t d n = false := by
  unfold wrD wrB
  rw [h]
  exact ⟨rfl, rfl⟩
theorem wr_none {t d : ByteArray} {n : Int} (h : t.data.toList = []) : wrD t d n = d ∧ wrB t d n = false := by
  unfold wrD wrB
  rw [decide_eq_true h, Bool.not_true, Bool.and_false]
  exact ⟨rfl, rfl⟩
theorem wr_yes {t d : ByteArray} {n : Int} (h : stOk d n = true) (h2 : t.data.toList ≠ []) : wrD t d n = d ++ t ∧ wrB t d n = true := by
  unfold wrD wrB
  rw [h, decide_eq_false h2]
  exact ⟨rfl, rfl⟩
theorem resW_bad {t d : ByteArray} {n : Int} (h : (!stOk d n) = true) : [(true, [CV.s d, CV.i .i64 n]), (false, [CV.b false])] = [(true, [CV.s (wrD t d n), CV.i .i64 n]), (false, [CV.b (wrB t d n)])] := by
  have := wr_bad (t := t) (show stOk d n = false by simpa using h)
  rw [this.1, this.2]
theorem resW_none {t d : ByteArray} {n : Int} (h : (t.toList == (⟨#[]⟩ : ByteArray).toList) = true) : [(true, [CV.s d, CV.i .i64 n]), (false, [CV.b false])] = [(true, [CV.s (wrD t d n), CV.i .i64 n]), (false, [CV.b (wrB t d n)])] := by
  have := wr_none (d := d) (n := n) (str_is h)
  rw [this.1, this.2]
theorem resW_yes {t d : ByteArray} {n : Int} (h : (!stOk d n) = false) (h2 : (t.toList == (⟨#[]⟩ : ByteArray).toList) = false) : [(true, [CV.s (d ++ t), CV.i .i64 n]), (false, [CV.b true])] = [(true, [CV.s (wrD t d n), CV.i .i64 n]), (false, [CV.b (wrB t d n)])] := by
  have := wr_yes (show stOk d n = true by simpa using h) (str_isnt h2)
  rw [this.1, this.2]
theorem wr_le {t d : ByteArray} (hd : d.size ≤ 70368744177664) (ht : t.size ≤ 140737488355340) : d.size + t.size ≤ maxLen := by
  simp only [maxLen]; omega
end Go.Proofs.YtdmipmbeolglaaaGreatDoor.Ab
