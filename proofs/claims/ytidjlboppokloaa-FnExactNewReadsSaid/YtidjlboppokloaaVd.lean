/- Small functions of ranges, exactly. -/
import Derived.Test.YtidjlboppokloaaEd
namespace Go.Proofs.Ytidjlboppokloaa.Ab
open Go.RowKit
set_option linter.unusedVariables false
set_option linter.unusedSimpArgs false
set_option maxRecDepth 100000
/-- Is x from lo to hi? -/
def inR (x lo hi : Int) : Bool := decide (lo ≤ x) && decide (x ≤ hi)
def spIn : FSpec where
  pre args := ∃ x lo hi : Int, args = [.val false [.i .i64 x], .val false [.i .i64 lo], .val false [.i .i64 hi]]
  res args := match args with
    | [.val _ [.i _ x], .val _ [.i _ lo], .val _ [.i _ hi]] => .val false [.b (inR x lo hi)]
    | _ => .none
def spNum : FSpec where
  pre args := ∃ x : Int, args = [.val false [.i .i64 x]]
  res args := match args with
    | [.val _ [.i _ x]] => .val false [.b (inR x (-1000000000) 1000000000)]
    | _ => .none
theorem resB {x y : Bool} (h : x = y) : [CV.b x] = [CV.b y] := by rw [h]
theorem snapN {i : Int} {n : Nat} (f : Int → Int → Snap) (z : Int) (h0 : 0 ≤ i) (hi : i < n) (hn : n ≤ maxLen) : f z (IntKind.i64.wrap (i + 1)) = f z (i + 1) := congrArg (f z) (wrap_next h0 hi hn)
/-- Is a value (of a number's or an error's kind) valid? Cells: kind, number, step, text, list, columns, rows. -/
def okVal (a : List D) : Bool :=
  (a.getD 4 default).rows.length == 0 && (a.getD 5 default).rows.length == 0 && (a.getD 6 default).rows.length == 0 && (a.getD 2 default).int == 0 && (a.getD 3 default).str.toList == [] &&
    (if (a.getD 0 default).int = 1 then inR (a.getD 1 default).int (-1000000000) 1000000000 else inR (a.getD 1 default).int 1 8)
/-- What is known of all, and what is known of some. -/
theorem joinB {P : Program} {T : Tab} {f : FuncId} {pre pre' : List SV → Prop} {e : List SV → Bool} (h : ∃ g : List SV → Bool, FOk P T f { pre := pre, res := fun args => .val false [.b (g args)] }) (h' : FOk P T f { pre := pre', res := fun args => .val false [.b (e args)] }) :
    ∃ g : List SV → Bool, FOk P T f { pre := pre, res := fun args => .val false [.b (g args)] } ∧ ∀ args, pre' args → g args = e args := by
  classical
  obtain ⟨g, hg⟩ := h
  refine ⟨fun args => if pre' args then e args else g args, ⟨hg.1, (fun hb => by cases hb), fun _ w X args vals hX hargs hgl hpre => ?_, (fun hb => by cases hb)⟩, fun args hp => if_pos hp⟩
  by_cases hp : pre' args
  · have := h'.ok rfl w X args vals hX hargs hgl hp
    simp only
    rw [if_pos hp]
    exact this
  · have := hg.ok rfl w X args vals hX hargs hgl hpre
    simp only
    rw [if_neg hp]
    exact this
theorem argG_inj {cts : List CT} {a b : List D} (wa : WfRow T cts a) (wb : WfRow T cts b) (h : [argG cts a] = [argG cts b]) : a = b := by
  have h' : rowC cts a = rowC cts b := by simpa using h
  exact row_eq wa wb (by rw [h'])
end Go.Proofs.Ytidjlboppokloaa.Ab
